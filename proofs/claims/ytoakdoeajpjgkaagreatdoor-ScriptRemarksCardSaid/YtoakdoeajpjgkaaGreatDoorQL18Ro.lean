/- Part of a law's texts. Conditions: none. -/
import Derived.Test.YtoakdoeajpjgkaaGreatDoorQL18Rn
import Derived.LaidLaws
import Derived.Lib.LaidTab
import Derived.Stop.LaidErr
import Derived.Shelf.Vars
import Derived.MakeChecks
import Derived.ChangeSame
import Derived.Deep.Slices
import Derived.SizedLaws
import Derived.Stop.Joined
import Derived.Lay
import Derived.JoinedOf
open Go.Proofs.Tryz
set_option linter.all false
namespace Go.Proofs.YtoakdoeajpjgkaaGreatDoor
open Go
theorem Dq{s:Dev}{c:Cfg}{b:Blk}(h0:b.has c 0=false):∀ (ws:List Int) (x:gP),(∀ v∈ws,v=0)→ws.foldl (s.see c b) x=x
 | [],_,_=>rfl
 | v::t,x,h=>by
   have hv:=h v (List.mem_cons_self ..)
   subst hv
   simp only[List.foldl_cons]
   rw[show s.see c b x 0=x from by unfold Dev.see;rw[if_pos (.inr h0)]]
   exact Dq h0 t x fun v hv=>h v (List.mem_cons_of_mem _ hv)
theorem qT{s:Dev}{c:Cfg}(hc:bA c){b:Blk}(hb:fZ c b){ws:List Int}(h:∀ v∈ws,v=0):s.reachSize c b ws=0:=by
 have h1:=hb.act
 have h4:=iD hc (k:=b.act) (by omega)
 have h0:b.has c 0=false:=by unfold Blk.has;simp;omega
 unfold Dev.reachSize Dev.reach
 rw[Dq h0 ws _ h]
 unfold Dev.reachL
 rfl
theorem xx{kp:Prop}{c:Cfg}(hc:bA c){N bd:Nat}{h:HpS}{s:Dev}{a:Int}(H:HC kp c N bd h s a 0 [])(hT:h.T.at_=[]):h.stats s=⟨0,0,0,0,false⟩:=by
 have hz:∀ v∈h.words++(h.blk s).rts,v=0:=fun v hv=>by
  rcases List.mem_append.1 hv with hv | hv
  ·unfold HpS.words at hv
   rw[hT] at hv
   simp[bY] at hv
  ·rw[H.blk] at hv
   exact(H.hm.heap.roots v hv).resolve_right fun h=>by cases h
 unfold HpS.stats
 rw[hT,H.sk.ln,H.ho,qT H.hw.c (dC H.hw.c H.hw.u) hz,H.blk]
 rfl
theorem isW{B:World}{Fr:List HP}{bm br n bh bd:Nat}{c:Cfg}{h:HpS}{s:Dev}(hn:n≤1000)(hW:dZ h s)(hb:h.bd=bd)(hst:h.stats s=⟨0,0,0,0,false⟩)(hck:s.check h.c=0):∀ w,Holds B (dD bh h::aB bd s::eC bm br n c::eB br n::Fr) w→Calls Tryz.prog 45 [ptr bm,ptr bh].toArray w (aZ B (dD bh h::aB bd s::eC bm br n c::eB br n::Fr) (.bool true)):=by
 subst hb;exact A6 B Fr bm br n c hn bh h s hW hst hck
theorem HC.check{kp:Prop}{c:Cfg}(hc:bA c){N bd:Nat}{h:HpS}{s:Dev}{a u:Int}{L:List Int}(H:HC kp c N bd h s a u L):s.check h.c=0:=by
 rw[H.hcc];exact oG hc H.hw.u H.hm.block H.hm.heap
theorem ue{p:Int}(hp:p≠0):(⟨[],[],0⟩:gv).take p=(1,⟨[(1,p)],[(p,1)],1⟩):=by
 unfold gv.take
 rw[if_neg hp,if_neg (by simp[bK])]
 rfl
theorem A0{m:Int→Int}{k w r:Int}(h:0≤r∧r≤w∧w≤64)(e:m k=eu w r):orf m k=r∧osz m k=w+1:=by
 unfold orf osz
 rw[e,rI h];exact⟨rfl,rfl⟩
theorem u6(B:World)(Fr:List HP):
 ∀ w,Holds B Fr w→Calls Tryz.prog 24 [].toArray w (aZ B Fr (.bool true)):=by
 refine ao func24 aa ntmps24 aa ?_
 obtain⟨c,hcm,hcs,hcl,hcr⟩:∃ c,c=mkC 0 0 40∧c.space=48∧c.log=3∧c.roots=1:=⟨_,rfl,rfl,rfl,rfl⟩
 have hc:bA c:=by rw[hcm];exact vM (by decide) (by decide) (by decide)
 have hA:=jf hc
 have hf0:=uQ hc (a:=0) (by decide)
 refine ac (ab (kPa aa aa (ad (ac (ac (ab (aw aa (ar call43 aa) (u7 _ _) .free aa aa ?_)))))))
 refine kPv (bz aa) aa (ad (bI aa (rfl) (aq (ac (ab (kPv (aP aa (jd _ aa)) aa (aJ aa (ar call44 aa) (w9 B _ 0 0 40 (by decide) c hcm) .free aa aa ?_)))))))
 rintro _ _ ⟨bd,bh,bm,br,N,s,hN,H0,rfl,rfl⟩
 obtain⟨h0,hh0⟩:∃ h0:HpS,h0=iK bd c s:=⟨_,rfl⟩
 rw[←hh0] at H0 ⊢
 have hT0:h0.T=⟨[],[],0⟩:=by rw[hh0];rfl
 refine kPm aa aa (kPv (aA aa aa) aa (kPv (aA aa aa) aa (kPv (aA aa aa) aa (kPa aa aa (kPa aa aa (kPa aa aa (ad (am [3,2,0] rfl (ac (ac (ab ?_)))))))))))
 refine kPm aa aa (kPv (dx runUnderlying91 aa aa aa) aa (kPm aa aa (al aa (ak aa) (.on aa aa (ae aa)) aa aa (al aa (ak aa) (.on aa aa (ae aa)) aa aa (aw aa (ar call45 aa) (isW (by omega) H0.hw H0.hbd (xx hc H0 (by rw[hT0])) (H0.check hc)) (.on aa aa (ae aa)) aa aa ?_)))))
 refine al aa (bz aa) (.on aa aa (ae aa)) aa aa (kPv (aG aa aa aa) aa (ad (am [22,2,0] rfl (bI aa (rfl) (aq (ac (ab (kPm aa aa (aJ aa (ar call46 aa) (Db hc H0 (by decide) (by omega)) .free aa aa ?_)))))))))
 rintro _ _ ⟨h1,hx1,hT1,H1,rfl,rfl⟩
 have hk1:h1.T.take (c.frm 0+0)=(1,⟨[(1,c.frm 0+0)],[(c.frm 0+0,1)],1⟩):=by rw[hT1,hT0];exact ue (by omega)
 obtain⟨h2,s2,js2,e2,H2,hx2,hT2,_,hjl2,hl2⟩:=H1.alloc hc hx1 (w:=2) (r:=1) ⟨by decide,by decide,by decide⟩ (by omega) (.inr (by simp;omega)) (by rw[hT1,hT0];decide) (by rw[hT1,hT0];decide)
 rw[hk1] at e2 hT2
 have hk2:=A0 (m:=s2.load) (k:=c.frm 0+0) (w:=2) (r:=1) ⟨by decide,by decide,by decide⟩ (by rw[hl2 _ (by omega),if_pos (by omega),if_pos rfl])
 obtain⟨h3,s3,js3,e3,H3,hx3,hT3,_⟩:=H2.write hc hx2 (n:=1) (k:=c.frm 0+0) (i:=1) (v:=7) (by rw[hT2];rfl) (by simp) (by omega) (by decide) (.inl (by rw[H2.ff,H2.ft];omega))
 obtain⟨h4,s4,e4,H4,hx4,hT4,_⟩:=H3.commit hc hx3
 have hu4:(h4.stats s4).used=3:=by
  show(h4.blk s4).used=3
  rw[H4.blk];rfl
 refine kPa aa aa (ad (ac (ab (kPm aa aa (kPv (aP aa (kz _ _ aa aa)) aa (dQ aa (ar call47 aa) (Dh H1.hw H1.hbd e2) .free aa aa ?_))))))
 refine kPm aa aa (kPv (aA aa aa) aa (kPv (aA aa aa) aa (kPa aa aa (kPa aa aa (ad (am [6,5,4,2,0] rfl (ac (ab (kPm aa aa (kPv (an aa aa aa) aa (kPm aa aa ?_)))))))))))
 refine al aa (ak aa) (.on aa aa (ae aa)) aa aa (al aa (an aa aa aa) (.on aa aa (ae aa)) aa aa (kPv (ay aa aa aa) aa (kPm aa aa (al aa (ak aa) (.on aa aa (ae aa)) aa aa (al aa (an aa aa aa) (.on aa aa (ae aa)) aa aa (kPv (ay aa aa aa) aa (kPm aa aa (al aa (ak aa) (.on aa aa (ae aa)) aa aa (dQ aa (ar call48 aa) (Cg H2.hw H2.hbd (by decide) e3) (.on aa aa (ae aa)) aa aa ?_)))))))))
 refine al aa (an aa aa aa) (.on aa aa (ae aa)) aa aa (kPv (ay aa aa aa) aa (kPm aa aa (al aa (ak aa) (.on aa aa (ae aa)) aa aa (dQ aa (ar call49 aa) (BJ H3.hw H3.hbd e4) (.on aa aa (ae aa)) aa aa ?_))))
 refine al aa (an aa aa aa) (.on aa aa (ae aa)) aa aa (kPv (ay aa aa aa) aa (kPm aa aa (al aa (ak aa) (.on aa aa (ae aa)) aa aa (aw aa (ar call50 aa) (Cn H4.hw H4.hbd) (.on aa aa (ae aa)) aa aa ?_))))
 refine al aa (gW runUnderlying106 (t:=3) (off:=0) aa isAgg3 aa aa) (.on aa aa (ae aa)) aa aa (al aa (an aa aa aa) (.on aa aa (ae aa)) aa aa (kPv (ay aa aa aa) aa (kPa aa aa (ad (am [0] rfl (az ?_))))))
 exact au results24 aa (fun w hw=>⟨by simp[hu4],(hw.dp [0,0,0,0])⟩)
def awS:List UInt8:=[97,108,108,111,99,32,49,32,50,32,35,32,97,32,110,111,100,101]
theorem DX:num [49]=some 1:=by rw[←rp];rfl
theorem DW:num [50]=some 2:=by rw[←rp];rfl
theorem Av:eP awS=([(3,[1,2])],0,0):=by
 have h1:spl 10 awS=[awS]:=by decide
 have h2:tok (dr awS) none=[[97,108,108,111,99],[49],[50]]:=by decide
 have h3:cK [[97,108,108,111,99],[49],[50]]=((3,[1,2]),0):=vQ (ws:=[[97,108,108,111,99],[49],[50]]) (k:=3) (by decide) rfl (by simp[hZ,DX,DW])
 have h4:stP awS p0=(true,1,[(3,[1,2])],[],0,0):=by
  unfold stP p0
  simp only
  rw[h2,h3]
  rfl
 exact w7 (by decide) (by rw[h1,CP (by rw[h4]),h4];rfl)
theorem Ak{rs:List CR}(h:pF rs [(3,[1,2])]):∃ q c,rs=[(3,(q,2,c),[1,2])]:=by
 obtain⟨h1,h2⟩:=h
 match rs,h1 with
 | [(k,(q,n,c),l)],h1=>
   simp only[List.map_cons,List.map_nil,crC,List.cons.injEq,Prod.mk.injEq,and_true] at h1
   obtain⟨rfl,rfl⟩:=h1
   have h3:n=2:=h2 _ (List.mem_cons_self ..)
   subst h3
   exact⟨q,c,rfl⟩
theorem kR{B:World}{P:Program}{σ:Env}{H:List HP}{d:Option Tmp}{ty:TypeId}{p:String}{af:Array Edge}{g:Option (Nat×Bool)}{t:TypeId}{x:Operand}{b off k i j m cap:Nat}{cs:List (List Value)}{c:List Value}{v:Value}(ht:∀ w,(isAgg t).run P w= .ok false w)(hr:SlN B H (.slice (some ⟨b,off,none⟩) k cap) m cs)(hx:evO σ x=some (.pointer (some ⟨b,off+i*m+j,none⟩)))(hi:cs[i]? =some c)(hj:c[j]? =some v):
 Evs P B σ H ⟨d,.load t x,ty,p,af,g⟩ v:=by
 intro a w kn hh
 obtain⟨q,cp,e,hc⟩:=hr.ex
 obtain⟨b',off',e',hl,h2⟩:=hc w hh i c hi
 cases e
 cases e'
 have h3:=h2 j (by rw[←hl];exact(List.getElem?_eq_some_iff.1 hj).1)
 rw[hj, ←Nat.add_assoc] at h3
 simp[execOp,kn.eval hx,Instr.loadAt,Instr.sureAddr,loadVar,ht,load,Sem.run,h3]
theorem C5{B:World}{H:List HP}{q:Option Addr}{c b:Nat}(h:SlR B H (.slice q 2 c) [w64 1,w64 2])(g:SlR B H (.slice (some ⟨b,0,none⟩) 2 2) [w64 1,w64 2]):
 ∀ w,Holds B H w→Calls Tryz.prog 25 [.slice q 2 c,.slice (some ⟨b,0,none⟩) 2 2].toArray w (aZ B H (.bool true)):=fun w hw=>
 tF B H q (some ⟨b,0,none⟩) c 2 [1,2] [1,2] (by decide) (by decide) (fun i hi=>vt h hw i hi) (fun _ _=>⟨_,_,rfl⟩) h g w hw
theorem BQ:dI (3,[1,2])=[97,108,108,111,99,32,49,32,50]:=by
 unfold dI
 rw[if_neg (by decide)]
 show([97,108,108,111,99]++([32]++Lib.decDigits 1))++([32]++Lib.decDigits 2)=_
 rw[ir (by decide),ir (by decide)]
 rfl
theorem De{B:World}{H:List HP}[cP H B](gl:GL B)(fg:FG B){q:Option Addr}{c:Nat}(h:SlR B H (.slice q 2 c) [w64 1,w64 2]):
 ∀ w,Holds B H w→Calls Tryz.prog 13 [.agg #[i64 3,.slice q 2 c]].toArray w (aZ B H (str [97,108,108,111,99,32,49,32,50])):=fun w hw=>by
 rw[←BQ]
 exact Aj B H gl fg 3 q c [1,2] (by decide) (by decide) h (fun i hi=>vt h hw i hi) w hw
theorem u5(B:World)(Fr:List HP)[cP Fr B](gl:GL B)(fg:FG B):
 ∀ w,Holds B Fr w→Calls Tryz.prog 11 [].toArray w (aZ B Fr (.bool true)):=by
 refine ao func11 aa ntmps11 aa (ac (ab (kPa aa aa (ad (ac (ac (ab (aw aa (ar call24 aa) (u6 _ _) .free aa aa ?_))))))))
 refine kPv (bz aa) aa (ad (bI aa (rfl) (aq (ac (ab (aJ aa (ar call14 aa) (of B Fr gl fg awS) .free aa aa ?_))))))
 rintro _ _ ⟨sv,hsv,rfl,rfl⟩
 rw[Av]
 refine kPm aa aa (kPv (aA aa aa) aa (kPv (aA aa aa) aa (kPv (aA aa aa) aa (kPa aa aa (kPa aa aa (kPa aa aa (ad (am [3,2,1,0] rfl (ac (wj fun rs hrs=> ?_))))))))))
 obtain⟨qa,ca,hrs1⟩:=Ak hrs
 subst hrs1
 refine oH fun q4 cap4 hq4 hqi4=> ?_
 subst hq4
 obtain⟨b4,o4,rfl⟩:=hqi4 0 (Nat.zero_lt_succ _)
 refine ab (kPm aa aa (kPv (an aa aa aa) aa (kPm aa aa (al aa (ak aa) (.on aa aa (ae aa)) aa aa (al aa (an aa aa aa) (.on aa aa (ae aa)) aa aa (kPv (ay aa aa aa) aa (kPm aa aa (al aa (ak aa) (.on aa aa (ae aa)) aa aa (al aa (bG aa runUnderlying24 ⟨_,rfl⟩ rfl) (.on aa aa (ae aa)) aa aa (al aa (an aa aa aa) (.on aa aa (ae aa)) aa aa (kPv (ay aa aa aa) aa ?_)))))))))))
 refine kPm aa aa (al aa (ak aa) (.on aa aa (ae aa)) aa aa (al aa (kr (sz:=2) (m:=o4+0*2) runUnderlying24 sizeOf32 aa aa (by decide) (by simp) aa) (.on aa aa (ae aa)) aa aa (al aa (aD (m:=_) kP aa aa) (.on aa aa (ae aa)) aa aa (al aa (kR (i:=0) (j:=0) (c:=crE (3,(qa,2,ca),[1,2])) (v:=i64 3) isAgg29 (jS qx 0 aa) aa aa aa) (.on aa aa (ae aa)) aa aa (al aa (an aa aa aa) (.on aa aa (ae aa)) aa aa (kPv (ay aa aa aa) aa (kPm aa aa (al aa (ak aa) (.on aa aa (ae aa)) aa aa (al aa (kr (sz:=2) (m:=o4+0*2) runUnderlying24 sizeOf32 aa aa (by decide) (by simp) aa) (.on aa aa (ae aa)) aa aa (al aa (aD (m:=_) iE aa aa) (.on aa aa (ae aa)) aa aa (al aa (kR (i:=0) (j:=1) (c:=crE (3,(qa,2,ca),[1,2])) (v:= .slice qa 2 ca) isAgg30 (jS qx 0 aa) aa aa aa) (.on aa aa (ae aa)) aa aa ?_)))))))))))
 refine cR aa (Ap runUnderlying30 sizeOf25 zeroValue25 aa aa aa aa aa) (.on aa aa (ae aa)) aa aa ?_
 rintro _ _ ⟨b34,rfl,rfl⟩
 refine aw aa (ar call25 aa) (C5 (ol 2 aa (t:=(3,(qa,2,ca),[1,2])) (List.mem_cons_self ..) aa) (SlR.row (b:=b34) (n:=2) (cap:=2) (off:=0) (cs:=[w64 1,w64 2]) aa aa)) (.on aa aa (ae aa)) aa aa ?_
 refine kPv (ay aa aa aa) aa (kPm aa aa (al aa (ak aa) (.on aa aa (ae aa)) aa aa (al aa (kr (sz:=2) (m:=o4+0*2) runUnderlying24 sizeOf32 aa aa (by decide) (by simp) aa) (.on aa aa (ae aa)) aa aa (al aa (iq (i:=0) (c:=crE (3,(qa,2,ca),[1,2])) isAgg32 sizeOf32 (jS qx 1 aa) aa aa) (.on aa aa (ae aa)) aa aa (aw aa (ar call13 aa) (De gl fg (ol 2 aa (t:=(3,(qa,2,ca),[1,2])) (List.mem_cons_self ..) aa)) (.on aa aa (ae aa)) aa aa ?_)))))
 refine al aa (uW aa aa aa) (.on aa aa (ae aa)) aa aa (kPv (ay aa aa aa) aa (kPa aa aa (ad (am [0] rfl (az ?_)))))
 exact au results11 aa (fun w hw=>⟨by rfl,(hw.dp [0,0,0])⟩)
theorem mm{P:Program}{n:String}{d:DataW Unit}{r:List (String×DataW Unit)}{W:World}{g:Nat}{t:TypeId}(h:laidMet P ((n,d)::r) W)(hg:P.globalNamed n=some g)(ht:(P.globals[g]?).map (·.type)=some t):
 ∃ cs fuel p,W.var? P n=some cs∧DataW.trod (fun _=>()) P W 0 (fun _=>true) false fuel t cs.toList=some (d,p):=by
 obtain⟨ps,⟨g',t',cs,fuel,p,q,hg',ht',hv,hd,_⟩,_⟩:=h
 obtain rfl:=Option.some.inj (hg.symm.trans hg')
 obtain rfl:=Option.some.inj (ht.symm.trans ht')
 exact⟨cs,fuel,p,hv,hd⟩
theorem yi(s:ByteArray):str s.data.toList= .string s:=by
 show Value.string ⟨s.data.toList.toArray⟩=_
 rw[Array.toArray_toList]
theorem oM{H:Type}{enc:TypeId×Value→H}{P:Program}{W:World}{base fuel:Nat}{sp:Nat→Bool}{held:Bool}{TE:TypeId}{cs:List Value}{f0 f1:Field}{l:List UInt8}{n:Int}{p:List MemPlace}
 (ht:P.underlying TE=some (.struct #[f0,f1])) (o0:f0.offset=0) (o1:f1.offset=1) (c0:P.cellsOf f0.type=1) (c1:P.cellsOf f1.type=1) (cT:P.cellsOf TE=2) (h0:P.underlying f0.type=some .string) (h1:P.underlying f1.type=some (.int .i64))
 (h:DataW.trod enc P W base sp held fuel TE cs=some (.agg [.lit (.string l),.lit (.int .i64 n)],p)):cs=[str l,.int .i64 n]:=by
 obtain⟨y0,y1,m,e,hl,g0,g1⟩:=Go.ChangeShapes.trod_struct2 ht h
 rw[o0,c0] at g0
 rw[o1,c1] at g1
 rw[cT] at hl
 match cs,hl with
 | [u,v],_=>
   obtain⟨s,es,ey,_⟩:=DataW.trod_string h0 g0
   obtain⟨k,ek,ez,_⟩:=DataW.trod_int h1 g1
   have es:[u]=[Value.string s]:=es
   have ek:[v]=[Value.int .i64 k]:=ek
   cases es;cases ek
   rw[ey,ez] at e
   simp only[Prod.mk.injEq,DataW.agg.injEq,List.cons.injEq,DataW.lit.injEq,Lit.string.injEq,Lit.int.injEq,true_and,and_true] at e
   obtain⟨⟨rfl,rfl⟩,_⟩:=e
   rw[yi]
theorem qN{H:Type}{enc:TypeId×Value→H}{C:Checked}{os:Os}{f:FuncId}{fn:Func}{s:ChangeSpec}{conds:List PathCond}{apart fresh handsOn again:Bool}{laid:List (String×DataW Unit)}
 (own:ownKnob C.prog.godebug=none) (started:os.Started) (noInit:C.prog.inits.idxOf? f=none) (hfn:C.prog.funcs[f]? =some fn)
 (witness:∃ (w:World) (tape:Tape) (i:Input),w.os=os∧(w.forCall tape i).Shaped C.prog∧i.vars=[]∧Input.okWide C.prog (w.forCall tape i) .any w.heap.size f i∧
  ((s.pre enc C.prog fn conds apart (w.forCall tape i).memory i.args∧laidMetH C.prog laid (w.forCall tape i).memory)∧sizedMet enc C.prog fn (OpenSpec.ofChange s) apart (w.forCall tape i).memory i.args)∧({}:Assume).holds C.prog (lone (Frame.enter C.prog f i.args .normal) [] (w.forCall tape i)))
 (contract:∀ (W:World) (base:Nat) (args:Array Value) (ds gs:List (DataW H)) (before:List MemPlace),(∀ (j:Nat) t v,fn.params[j]? =some t→args[j]? =some v→Value.okWide C.prog W .any base t v)→
  DataW.Whole enc C.prog fn.params.toList s.vars apart W args.toList ds gs before→conds.all (PathCond.test C.prog ⟨fn.params.toList,ds,s.plain.varTypes C.prog,gs⟩)=true→laidMetH C.prog laid W→W.ShapedOpen C.prog→
  Calls C.prog f args W fun e W'=>∃ v,e= .returned v∧s.post enc C.prog fn apart fresh handsOn again W args v W'):
 ReturnsInHanded {} C os f .any (fun w args=>(s.pre enc C.prog fn conds apart w args∧laidMetH C.prog laid w)∧sizedMet enc C.prog fn (OpenSpec.ofChange s) apart w args) (s.post enc C.prog fn apart fresh handsOn again):=by
 refine returnsInHanded_of_calls own started noInit witness ?_
 intro w tape i _ hsh _ hok hpre _
 obtain⟨_,_,_,fn',hfn',_,_,_,_,hval⟩:=hok
 obtain rfl:fn'=fn:=Option.some.inj (hfn'.symm.trans hfn)
 obtain⟨⟨⟨ds,gs,before,hw,hc⟩,hx⟩,hz⟩:=hpre
 refine(contract (w.forCall tape i) w.heap.size i.args ds gs before hval (DataW.Whole.of_heap (w':=w.forCall tape i) (by rfl) hw) hc (laidMetH.of_heap (by rfl) hx) hsh).mono fun e W' ⟨v,he,hp⟩=> ?_
 subst he
 exact ChangeSpec.post_blind hp
def qg{H:Type}(k:Nat):DataW H:= .agg [.lit (.string (fw k)),.lit (.int .i64 (fm k))]
set_option maxRecDepth 100000 in
theorem DE{W:World}{r:List (String×DataW Unit)}(h:laidMet Tryz.prog (("tumulus/script.forms",Rows.laid_tumulus_script_forms)::r) W):FG W:=by
 obtain⟨cs,fuel,p,hv,hd⟩:=mm (g:=1) (t:=62) h (by kernel_rfl) (by kernel_rfl)
 obtain⟨xs,m,_,ex,_,hxl,hel⟩:=DataW.trod_array underlying62 hd
 have em:xs.map (·.1)=(List.range 18).map qg:=(DataW.agg.inj (Prod.mk.inj ex).1).symm.trans (by kernel_rfl)
 have c2:Tryz.prog.cellsOf 61=2:=by kernel_rfl
 have each:∀ i,i<18→(cs.toList.drop (i*2)).take 2=[str (fw i),i64 (fm i)]:=fun i hi=>by
  have h1:=hel i hi
  rw[c2,List.getElem?_eq_getElem (by omega)] at h1
  have h2:(xs[i]'(by omega)).1=qg i:=by
   have:=congrArg (fun l=>l[i]?) em
   simp only[List.getElem?_map,List.getElem?_eq_getElem (show i<xs.length by omega),List.getElem?_range hi,Option.map_some,Option.some.injEq] at this
   exact this
  rw[show xs[i]'(by omega)=(qg i,(xs[i]'(by omega)).2) from Prod.ext h2 rfl] at h1
  exact oM underlying61 aa aa (by kernel_rfl) (by kernel_rfl) (by kernel_rfl) underlying9 underlying3 h1
 refine⟨fun i hi=>⟨_,_,rfl,rfl,fun j hj=> ?_⟩⟩
 have h1:=each (j / 2) (by omega)
 have h2:=mu (j / 2) (by omega)
 have h3:=congrArg (fun l=>l[j%2]?) (h1.trans h2.symm)
 simp only[List.getElem?_take,List.getElem?_drop,if_pos (show j%2<2 by omega),show j / 2*2+j%2=j by omega] at h3
 rw[←h3,show 0+(i*36+j)=j by omega]
 exact(World.var?_cell (by kernel_rfl) hv j).trans (by simp)
set_option maxRecDepth 100000 in
theorem Dv{W:World}{r:List (String×DataW Unit)}(h:laidMet Tryz.prog (("tumulus/tumuluslaw18.forms",Rows.laid_tumulus_tumuluslaw18_forms)::r) W):LF W:=by
 obtain⟨cs,fuel,p,hv,hd⟩:=mm (g:=0) (t:=56) h (by kernel_rfl) (by kernel_rfl)
 have e0:(Rows.laid_tumulus_tumuluslaw18_forms:DataW Unit)= .slice ((List.range 18).map qg) []:=by kernel_rfl
 rw[e0] at hd
 rcases Go.Deep.open_slice underlying56 hd with ⟨_,hx⟩ | ⟨y,len,cap,m,n,D,Pl,hcs,_,hl,hm,hmm,hx,hel⟩
 ·cases hx
 ·have hx1:(List.range 18).map qg=(List.range len).map D:=by injection hx with hx _;injection hx with hx _
  have hlen:len=18:=by have:=congrArg List.length hx1;simpa using this.symm
  subst hlen
  have hD:∀ i,i<18→D i=qg i:=fun i hi=>by
   have:=congrArg (fun l=>l[i]?) hx1
   simp only[List.getElem?_map,List.getElem?_range hi,Option.map_some,Option.some.injEq] at this
   exact this.symm
  have hm18:18≤m:=by rw[hmm];split<;>omega
  have c2:Tryz.prog.cellsOf 55=2:=by kernel_rfl
  have each:∀ i,i<18→W.cell? (y.add (i*2))=some (str (fw i))∧W.cell? ((y.add (i*2)).add 1)=some (i64 (fm i)):=fun i hi=>by
   obtain⟨cs',h1,h2⟩:=hel i (by omega)
   rw[c2] at h1
   rw[hD i hi] at h2
   have h3:=oM underlying55 rfl rfl (by kernel_rfl) (by kernel_rfl) (by kernel_rfl) underlying9 underlying3 h2
   subst h3
   have hs:=World.cells?_some h1
   exact⟨hs.2.2 0 (by decide),hs.2.2 1 (by decide)⟩
  obtain⟨b,o,s⟩:=y
  have hs:s=none:=by
   have h1:=(each 0 (by decide)).1
   have e0:(⟨b,o,s⟩:Addr).add (0*2)=⟨b,o,s⟩:=rfl
   rw[e0] at h1
   unfold World.cell? at h1
   split at h1
   ·cases s with
    | none=>rfl
    | some q=>simp at h1
   ·cases h1
  subst hs
  refine⟨b,o,cap,?_,⟨fun i hi=>⟨b,o,rfl,rfl,fun j hj=> ?_⟩⟩⟩
  ·have:=World.var?_cell (g:=0) (by kernel_rfl) hv 0
   rw[this, ←Array.getElem?_toList,hcs];rfl
  ·obtain⟨h1,h2⟩:=each i hi
   match j,hj with
   | 0,_=>exact(congrArg W.cell? (fu b o (i*2))).symm.trans h1
   | 1,_=>exact((congrArg (fun a:Addr=>W.cell? (a.add 1)) (fu b o (i*2))).trans (congrArg W.cell? (fu b (o+i*2) 1))).symm.trans h2
set_option maxRecDepth 100000 in
theorem Dw{W:World}{r:List (String×DataW Unit)}(hs:W.ShapedOpen Tryz.prog)(h:laidMet Tryz.prog (("math/bits.deBruijn32tab",Rows.laid_math_bits_deBruijn32tab)::("math/bits.deBruijn64tab",Rows.laid_math_bits_deBruijn64tab)::("internal/strconv.uint64pow10",Rows.laid_internal_strconv_uint64pow10)::("unicode/utf8.acceptRanges",Rows.laid_unicode_utf8_acceptRanges)::("strconv.ErrRange",Rows.laid_strconv_ErrRange)::("strconv.ErrSyntax",Rows.laid_strconv_ErrSyntax)::r) W):GL W:=by
 have h2:=h.tail.tail
 have h4:=h2.tail.tail
 have cell:∀ {nm:String} {d d2:DataW Unit} {r:List (String×DataW Unit)} {g ti:Nat},laidMet Tryz.prog ((nm,.iface "*errors.errorString" d)::r) W→Tryz.prog.globalNamed nm=some g→(Tryz.prog.globals[g]?).map (·.type)=some ti→ti=76→∃ te pe,W.cell? ⟨g,0,none⟩=some (.iface te pe):=by
  intro nm d d2 r g ti h hg ht e
  subst e
  obtain⟨cs,fuel,p,hv,hd⟩:=mm h hg ht
  obtain⟨_,u,v,e,_⟩:=iface_of_trod underlying76 hd
  refine⟨u,v,?_⟩
  rw[World.var?_cell hg hv 0, ←Array.getElem?_toList,e];rfl
 refine⟨Lib.tabIs_of_head (g:=2) (by kernel_rfl) (by kernel_rfl) underlying181 underlying25 (by kernel_rfl) (by kernel_rfl) (show laidMet Tryz.prog (("internal/strconv.uint64pow10",Lib.tabData .u64 Lib.pow10Tab)::_) W from h2),?_,cell (g:=6) (d2:= .nil) h4.tail (by kernel_rfl) (by kernel_rfl) aa,cell (g:=7) (d2:= .nil) h4 (by kernel_rfl) (by kernel_rfl) aa⟩
 exact cell_of_shapedOpen_int (g:=3) (zero:= #[.int .i64 0]) hs (by decide+kernel) (by kernel_rfl) (by kernel_rfl) (by kernel_rfl) (by kernel_rfl) underlying3
theorem xH(s:ByteArray):∃ l:List UInt8,Value.string s=str l∧l.length=s.size:=⟨s.data.toList,(yi s).symm,Array.length_toList⟩
structure ua(c:Cmd):Prop where
 k:0≤c.1∧c.1<18
 n:c.2.length=fm c.1.toNat
 b:∀ n∈c.2,0≤n∧n<18446744073709551616
theorem ua.len{c:Cmd}(h:ua c):c.2.length≤3:=by
 rw[h.n];exact wq _ (by have:=h.k;omega)
theorem Am{B:World}{H:List HP}{q:Option Addr}{cap:Nat}{rs:List CR}{l:List Cmd}(hr:pF rs l)(hl:∀ c∈l,c.2.length≤1000000)(i j:Nat)(e:H[i]? =some (gL 32 2 crE 0 (.slice q rs.length cap,rs)))(e2:H[j]? =some (grp (rs.map jJ))):CmR B H q cap rs:=by
 refine⟨jS qx i e,fun t ht=>⟨ol j e2 ht (hr.2 t ht),hr.2 t ht,hl (crC t) ?_⟩⟩
 rw[←hr.1];exact List.mem_map_of_mem ht
theorem sX{B:World}{Fr:List HP}{sv:Value}{rs:List CR}{w:World}(h:Holds B (gL 32 2 crE 0 (sv,rs)::Fr) w):∃ q cap,sv= .slice q rs.length cap:=by
 rcases eF h with ⟨e1,e2,_⟩ | ⟨bd,pre,rest,k,_,e,_⟩
 ·exact⟨none,0,by rw[e2,e1];rfl⟩
 ·exact⟨_,_,e⟩
theorem wW{B:World}{Fr:List HP}{s1 s2:Value}{l1 l2:List Cmd}(h1:∀ c∈l1,c.2.length≤1000000)(h2:∀ c∈l2,c.2.length≤1000000)(n1:l1.length≤1000000)(n2:l2.length≤1000000):
 ∀ w,Holds B (iv 0 (s1,l1)::iv 0 (s2,l2)::Fr) w→Calls Tryz.prog 15 [s1,s2].toArray w (aZ B (iv 0 (s1,l1)::iv 0 (s2,l2)::Fr) (.bool (decide (l1=l2)))):=fun w hw=>by
 obtain⟨r1,k1,g1⟩:=lj hw
 have g2:=g1.front 2 rfl
 obtain⟨r2,k2,g3⟩:=lj g2
 obtain⟨q2,c2,rfl⟩:=sX g3
 obtain⟨q1,c1,rfl⟩:=sX (g3.front 2 rfl)
 have e1:r1.length=l1.length:=by rw[←k1.1,List.length_map]
 have e2:r2.length=l2.length:=by rw[←k2.1,List.length_map]
 have g4:=AS B _ q1 q2 c1 c2 r1 r2 (by omega) (by omega) (Am k1 h1 2 3 rfl rfl) (Am k2 h2 0 1 rfl rfl) w g3
 rw[k1.1,k2.1] at g4
 refine g4.mono fun e w' h=> ?_
 have back:∀ w',Holds B (gL 32 2 crE 0 (.slice q2 r2.length c2,r2)::grp (r2.map jJ)::gL 32 2 crE 0 (.slice q1 r1.length c1,r1)::grp (r1.map jJ)::Fr) w'→Holds B (iv 0 (.slice q1 r1.length c1,l1)::iv 0 (.slice q2 r2.length c2,l2)::Fr) w':=fun w' h=>
  gr k1 ((gr k2 h).pk [1,1])
 exact⟨h.1,back _ h.2⟩
structure Ln where
 k:Nat
 n:List Int
 g:Nat
structure LnW(x:Ln):Prop where
 k:x.k≤255
 n:x.n.length=3
 b:∀ n∈x.n,0≤n∧n<18446744073709551616
 g:x.g≤255
def uw(g:Nat):List UInt8:=[[],[32],[9,32]].getD (g%3) []
def pA(g:Nat):List UInt8:=[[32],[32,32],[9]].getD (g / 3%3) []
def qG(g:Nat):List UInt8:=[[],[32],[32,35,32,97,32,114,101,109,97,114,107],[35]].getD (g / 9%4) []
def Ln.c(x:Ln):Cmd:=((x.k%18:Nat),x.n.take (fm (x.k%18)))
def Ln.m(x:Ln):List UInt8:=x.c.2.foldl (fun l n=>l++(pA x.g++Lib.decDigits n.toNat)) (uw x.g++fw (x.k%18))
def Ln.t(x:Ln):List UInt8:=x.m++qG x.g
theorem Ln.line(x:Ln):dI x.c=x.c.2.foldl (fun l n=>l++([32]++Lib.decDigits n.toNat)) (fw (x.k%18)):=by
 unfold dI
 rw[if_neg (by show ¬ (((x.k%18:Nat):Int)<0∨18≤((x.k%18:Nat):Int));omega)]
 rfl
theorem yQ(g:Nat):[str [],str [32],str [9,32]][g%3]? =some (str (uw g))∧(uw g).length≤2:=by
 unfold uw
 rcases (show g%3=0∨g%3=1∨g%3=2 by omega) with h | h | h<;>rw[h]<;>exact⟨rfl,by decide⟩
theorem yz(g:Nat):[str [32],str [32,32],str [9]][g / 3%3]? =some (str (pA g))∧(pA g).length≤2:=by
 unfold pA
 rcases (show g / 3%3=0∨g / 3%3=1∨g / 3%3=2 by omega) with h | h | h<;>rw[h]<;>exact⟨rfl,by decide⟩
theorem ye(g:Nat):[str [],str [32],str [32,35,32,97,32,114,101,109,97,114,107],str [35]][g / 9%4]? =some (str (qG g))∧(qG g).length≤11:=by
 unfold qG
 rcases (show g / 9%4=0∨g / 9%4=1∨g / 9%4=2∨g / 9%4=3 by omega) with h | h | h | h<;>rw[h]<;>exact⟨rfl,by decide⟩
theorem CK{a b c:Int}:∀ i,i<3→[w64 a,w64 b,w64 c][i]? =some (w64 ([a,b,c].getD i 0))∧[a,b,c].getD i 0∈[a,b,c]
 | 0,_=>⟨rfl,by simp⟩
 | 1,_=>⟨rfl,by simp⟩
 | 2,_=>⟨rfl,by simp⟩
theorem xZ{u v:Value}{a b c:Int}:∀ i,i<3→[u,w64 a,w64 b,w64 c,v][1+i]? =some (w64 ([a,b,c].getD i 0))
 | 0,_=>rfl
 | 1,_=>rfl
 | 2,_=>rfl
theorem B9{a b c:Int}{i m:Nat}(h:i<m)(hm:m≤3):∃ hl:i<([a,b,c].take m).length,([a,b,c].take m)[i]=[a,b,c].getD i 0:=by
 refine⟨by simp;omega,?_⟩
 rw[List.getElem_take,List.getD_eq_getElem?_getD,List.getElem?_eq_getElem (by simp;omega)];rfl
theorem vK{α:Type}{f:α→Int→α}{x:α}{a b c:Int}{i m:Nat}(h:i<m)(hm:m≤3):(([a,b,c].take m).take (i+1)).foldl f x=f ((([a,b,c].take m).take i).foldl f x) ([a,b,c].getD i 0):=by
 obtain⟨hl,e⟩:=B9 (a:=a) (b:=b) (c:=c) h hm
 rw[pN hl,e]
theorem Dt{a b c:Int}{i m:Nat}(h:i<m)(hm:m≤3):([a,b,c].take m).take (i+1)=([a,b,c].take m).take i++[[a,b,c].getD i 0]:=by
 obtain⟨hl,e⟩:=B9 (a:=a) (b:=b) (c:=c) h hm
 rw[List.take_succ_eq_append_getElem hl,e]
theorem x4(B:World)(Fr:List HP)[cP Fr B](gl:GL B)(lf:LF B)(k0 g:Nat)(hk0:k0≤255)(hg:g≤255)(n0 n1 n2:Int)(hnb:∀ n∈[n0,n1,n2],0≤n∧n<18446744073709551616):
 ∀ w,Holds B Fr w→Calls Tryz.prog 12 [.agg #[.int .u8 k0,w64 n0,w64 n1,w64 n2,.int .u8 g]].toArray w (Ret B (fun v H'=>∃ t:CR,t.2.1.2.1=t.2.2.length∧crC t=(Ln.mk k0 [n0,n1,n2] g).c∧v= .tuple #[crV t,str (dI (Ln.mk k0 [n0,n1,n2] g).c),str (Ln.mk k0 [n0,n1,n2] g).t]∧H'=jJ t::Fr) (fun _ _=>False)):=by
 refine ao func12 aa ntmps12 aa ?_
 obtain⟨k,hk⟩:∃ k,k=k0%18:=⟨_,rfl⟩
 have hk18:k<18:=by omega
 have hfk:=uO k hk18
 have hfm:=wq k hk18
 obtain⟨hp1,hp2⟩:=yQ g
 obtain⟨hs1,hs2⟩:=yz g
 obtain⟨ht1,ht2⟩:=ye g
 obtain⟨bf,of_,capf,hlf1,hlf2⟩:=lf
 refine ac (ab (kPb (aX aa) aa fun b1=>(kPb (aC zeroValue32 aa) aa fun b2=>(kPa aa aa (kPa aa aa (ad (ac (ab (kPl BC isAgg5 aa aa aa aa (kPv (bP runUnderlying5 runUnderlying3 aa) aa (kPv (lZ isAgg56 aa hlf1) aa ?_)))))))))))
 refine kPv (bG aa runUnderlying56 ⟨_,rfl⟩ rfl) aa (kPv (eQ (c:=((k:Nat):Int)) aa aa (by decide) ((iU 18 (by omega)).trans (by omega))) aa (kPa aa aa (ad (am [5,4,3,2,1] rfl (ac (ab (kPm aa aa (kPv (aP aa (tT _ aa)) aa (kPb (aC zeroValue32 aa) aa fun b6=> ?_)))))))))
 refine kPs (ax (vs:=_) sizeOf32 aa aa aa (by first | rfl | exact ei (by assumption)) rfl) rfl ?_;refine ad ?_
 refine ac (ab (kPv (lZ isAgg56 aa hlf1) aa (kPm aa aa (kPv (kr (sz:=2) runUnderlying56 sizeOf55 aa aa (by omega) (by omega) aa) aa (kPv (aD (m:=_) BA aa aa) aa (kPv (kR (i:=k) (j:=0) (c:=[str (fw k),i64 (fm k)]) (v:=str (fw k)) isAgg9 (SlN.arg (cap:=capf) hlf2) aa (by simp[hk18]) aa) aa (kPa aa aa (ad (am [7,6,5,4,3,2,1] rfl (ac (ab ?_)))))))))))
 refine kPb (rz runUnderlying50 sizeOf9 zeroValue9 aa aa aa aa aa aa aa) aa fun b24=>(kPl rj isAgg5 aa aa aa aa (kPv (eQ (c:=((g%3:Nat):Int)) aa aa (by decide) ((iU 3 (by omega)).trans (by omega))) aa (kPv (cf runUnderlying50 sizeOf9 aa aa (by omega) (by omega)) aa (kPv (bR (v:=str (uw g)) isAgg9 (SlR.row (b:=b24) (n:=3) (cap:=3) (off:=0) (cs:=[str [],str [32],str [9,32]]) aa aa) aa (by rw[Int.toNat_natCast];exact hp1)) aa (kPm aa aa ?_)))))
 refine al aa (db aa aa (by first | omega | (simp only[List.length_append,List.length_cons,List.length_nil];omega))) .free aa aa ?_
 refine kPa aa aa (ad (am [8,7,6,5,4,3,2,1] rfl (ac (ac (aM (fun w hh=>eJ (T:=25) (enc:=w64) hh) (ab (kPv (aD (m:=_) BB aa aa) aa (kPv (lZ isAgg56 aa hlf1) aa (kPm aa aa (kPv (kr (sz:=2) runUnderlying56 sizeOf55 aa aa (by omega) (by omega) aa) aa (kPv (aD (m:=_) Bz aa aa) aa ?_)))))))))))
 refine kPv (kR (i:=k) (j:=1) (c:=[str (fw k),i64 (fm k)]) (v:=i64 (fm k)) isAgg3 (SlN.arg (cap:=capf) hlf2) aa (by simp[hk18]) aa) aa (kPv (kQ runUnderlying26 sizeOf25 aa .no (.yesi aa aa) (Nat.zero_le _) hfm (.inr aa) aa) aa (kPv (bG aa runUnderlying30 ⟨_,rfl⟩ rfl) aa (kPm aa aa (ad (am [40,39,38,8,7,6,4,3,2,1] rfl (aH (cJ (ι:=Nat×List UInt8×List UInt8×List Int×Value) [39,38,6,4,3,2,1] (fun (i,pl,tx,ns,nv)=>(i≤fm k)∧(pl=((([n0,n1,n2].take (fm k)).take i).foldl (fun l n=>l++([32]++Lib.decDigits n.toNat)) (fw k)))∧(tx=((([n0,n1,n2].take (fm k)).take i).foldl (fun l n=>l++(pA g++Lib.decDigits n.toNat)) (uw g++fw k)))∧(ns=([n0,n1,n2].take (fm k)).take i)∧(aL nv=true)∧(ns.length=i)∧(pl.length≤7+21*i)∧(tx.length≤9+22*i)) (fun (i,pl,tx,ns,nv)=>[(40,i64 i),(7,str pl),(8,str tx)]) (fun (i,pl,tx,ns,nv)=>cM 0 (nv,ns)::row b6 [i64 k,nv] 32::row b24 [str [],str [32],str [9,32]] 9::row b1 [.int .u8 k0,w64 n0,w64 n1,w64 n2,.int .u8 g] 28::row b2 [i64 0,.slice none 0 0] 32::Fr) (fun (i,pl,tx,ns,nv)=>fm k - i) (0,fw k,uw g++fw k,[],.slice none 0 0) (⟨Nat.zero_le _,rfl,rfl,rfl,rfl,rfl,by omega,by simp only[List.length_append];omega⟩) (fun a w st=>st.to (aE aa) (fun hh=>(hh.pk [0,1,0,1]))) ?_)))))))
 rintro⟨i,pl,tx,ns,nv⟩ ⟨hi0,hpl,htx,hns,hnv,hnl,hpll,htxl⟩
 try simp only at hi0 hpl htx hns hnv hnl hpll htxl ⊢
 refine cx (σ':=[(40,i64 i),(7,str pl),(8,str tx),(39,_),(38,_),(6,_),(4,_),(3,_),(2,_),(1,_)]) (aE aa) (ac (ab (kPv (an aa aa aa) aa (ad (ac ?_)))))
 refine a8 aa (fun h41=> ?_) (fun h41=> ?_)
 ·have hi:i<fm k:=by simp at h41;omega
  obtain⟨hn1,hni⟩:=CK (a:=n0) (b:=n1) (c:=n2) i (by omega)
  have hdl:=lq ([n0,n1,n2].getD i 0).toNat (by have:=hnb _ hni;omega)
  refine aq (ac (aH (ac (ab ?_))))
  refine al aa ((cf runUnderlying30 sizeOf25 aa aa (by omega) (by omega)).eq (show _=Value.pointer (some ⟨b1,1+i,none⟩) by first | rfl | (simp;done))) .free aa aa ?_
  refine kPv (ai (k:=1+i) (v:=w64 ([n0,n1,n2].getD i 0)) isAgg25 aa (xZ i (by omega))) aa (kPa aa aa (ad (ac (ab (kPl iE isAgg30 aa aa aa aa (kPm aa aa (kPb (fW runUnderlying30 sizeOf25 zeroValue25 aa aa aa) aa fun b47=>(aT [1,0] (cR aa (ee aa aa runUnderlying30 runUnderlying30 ⟨_,rfl⟩ sizeOf25 zeroValue25 aa (fun _=>rfl) gY aa aa (by omega)) .free aa aa ?_)))))))))
  rintro nv9 _ ⟨hnv9,rfl⟩
  refine kPv (aD (m:=_) iE aa aa) aa ?_
  refine kPs (aO sizeOf30 aa aa (by first | rfl | assumption) rfl) rfl ?_;refine ad ?_;refine am [10,40,7,8,39,38,6,4,3,2,1] rfl ?_;refine ac ?_;refine ab ?_;refine kPm aa aa ?_;refine kPm aa aa ?_;refine aw aa (ar call21 aa) (kN B _ gl (hnb _ hni)) .free aa aa ?_
  refine al aa (db aa aa (by first | omega | (simp only[List.length_append,List.length_cons,List.length_nil];omega))) .free aa aa ?_
  refine al aa (db aa aa (by first | omega | (simp only[List.length_append,List.length_cons,List.length_nil];omega))) .free aa aa ?_
  refine kPa aa aa (ad ?_)
  refine iC (.br [0,2,3,4,5,8] 1 (.fin [6,7,9,10,11,12]) 9 (.br1 [] 1 (.fin [6,7,10,11,12]))) [1,9] [0,2,3,4,5,6,7,8] [1,9] [row b1 [.int .u8 k0,w64 n0,w64 n1,w64 n2,.int .u8 g] 28] [7,40,39,38,6,4,3,2,1] (G:=Nat) (fun b56=>[(8,str (tx++(pA g++Lib.decDigits ([n0,n1,n2].getD i 0).toNat)))]) (fun b56=>cM 0 (nv9,ns++[([n0,n1,n2].getD i 0)])::row b6 [i64 k,nv9] 32::row b24 [str [],str [32],str [9,32]] 9::row b1 [.int .u8 k0,w64 n0,w64 n1,w64 n2,.int .u8 g] 28::row b2 [i64 0,.slice none 0 0] 32::Fr) Tryz.mixed (by kernel_rfl) ?_ ?_
  ·skip
   refine rQ (aj aa aa aa (ak aa) .free aa (aj aa aa aa (aD (m:=_) rj aa aa) .free aa (aj aa aa aa (ai isAgg5 aa aa) .free aa (aj aa aa aa (kq (c:=((g / 3:Nat):Int)) aa aa (by decide) (by rw[Int.tdiv_eq_ediv_of_nonneg (by omega)];exact(wN (by omega)).trans (by omega))) .free aa (aj aa aa aa (eQ (c:=((g / 3%3:Nat):Int)) aa aa (by decide) ((iU 3 (by omega)).trans (by omega))) .free aa (aj aa aa aa (ak aa) .free aa (cu ?_)))))))
   refine mK aa aa ?_ ?_
   ·skip
    refine kPb (rz runUnderlying50 sizeOf9 zeroValue9 aa aa aa aa aa aa aa) aa fun b56=>(ad (qI (row b56 [str [32],str [32,32],str [9]] 9) (gM (aj aa aa aa (cf runUnderlying50 sizeOf9 aa aa (by omega) (by omega)) .free aa (aj aa aa aa (bR (v:=str (pA g)) isAgg9 (SlR.row (b:=b56) (n:=3) (cap:=3) (off:=0) (cs:=[str [32],str [32,32],str [9]]) aa aa) aa (by rw[Int.toNat_natCast];exact hs1)) .free aa (aS aa aa (aw aa (ar call21 aa) (kN B _ gl (hnb _ hni)) .free aa aa ?_)))))))
    refine ad (cG ?_)
    refine aR aa aa aa (db aa aa (by first | omega | (simp only[List.length_append,List.length_cons,List.length_nil];omega))) .free aa ?_
    refine aR aa aa aa (db aa aa (by first | omega | (simp only[List.length_append,List.length_cons,List.length_nil];omega))) .free aa ?_
    refine aR aa aa aa (bu aa) .free aa (cu ?_)
    exact fun a w st_=>⟨b56,st_.to (aE aa) (fun hh=>(hh.dp [0]))⟩
   ·skip
    refine aw aa (ar call21 aa) (kN B _ gl (hnb _ hni)) .free aa aa ?_
    refine ad (qH (BZ (cu (BY aa ?_))))
    ·skip
     refine kPb (rz runUnderlying50 sizeOf9 zeroValue9 aa aa aa aa aa aa aa) aa fun b56=>(ad (qI (row b56 [str [32],str [32,32],str [9]] 9) (gM (aj aa aa aa (cf runUnderlying50 sizeOf9 aa aa (by omega) (by omega)) .free aa (aj aa aa aa (bR (v:=str (pA g)) isAgg9 (SlR.row (b:=b56) (n:=3) (cap:=3) (off:=0) (cs:=[str [32],str [32,32],str [9]]) aa aa) aa (by rw[Int.toNat_natCast];exact hs1)) .free aa ?_)))))
     refine aR aa aa aa (db aa aa (by first | omega | (simp only[List.length_append,List.length_cons,List.length_nil];omega))) .free aa ?_
     refine aR aa aa aa (db aa aa (by first | omega | (simp only[List.length_append,List.length_cons,List.length_nil];omega))) .free aa ?_
     refine aR aa aa aa (bu aa) .free aa (cu ?_)
     exact fun a w st_=>⟨b56,st_.to (aE aa) (fun hh=>(hh.dp [0]))⟩
  intro b56
  refine cx (σ':=[(8,str (tx++(pA g++Lib.decDigits ([n0,n1,n2].getD i 0).toNat))),(7,_),(40,_),(39,_),(38,_),(6,_),(4,_),(3,_),(2,_),(1,_)]) (aE aa) (ab (kPv (aN aa aa) aa (kPm aa aa (ad ?_))))
  exact fun a w st_=>⟨(i+1,pl++([32]++Lib.decDigits ([n0,n1,n2].getD i 0).toNat),tx++(pA g++Lib.decDigits ([n0,n1,n2].getD i 0).toNat),ns++[([n0,n1,n2].getD i 0)],nv9),⟨by first | omega | (simp only;omega),by rw[vK hi hfm,hpl],by rw[vK hi hfm,htx],by rw[Dt hi hfm,hns],hnv9,by simp[hnl],by simp only[List.length_append,List.length_cons,List.length_nil];omega,by simp only[List.length_append,List.length_cons,List.length_nil];omega⟩,by first | omega | (simp only;omega),st_.to (aE aa) (fun hh=>hh)⟩
 ·have hi:i=fm k:=by simp at h41;omega
  have hns2:ns=([n0,n1,n2].take (fm k)):=by rw[hns,hi,List.take_take,Nat.min_self]
  have hc:(Ln.mk k0 [n0,n1,n2] g).c=((k:Int),ns):=by rw[hns2];subst hk;rfl
  have hp:dI (Ln.mk k0 [n0,n1,n2] g).c=pl:=by rw[Ln.line,hpl,hi,List.take_take,Nat.min_self];subst hk;rfl
  have ht:(Ln.mk k0 [n0,n1,n2] g).t=tx++qG g:=by unfold Ln.t Ln.m;rw[htx,hi,List.take_take,Nat.min_self];subst hk;rfl
  refine bE (ac (tj fun q5 c5 hq5=> ?_))
  subst hq5
  refine iC (.br [0,1,2,4,5,6,7] 3 (.fin [8,9,10,11,12,13]) 11 (.br1 [12] 3 (.fin [8,9,10,13]))) [3,11] [0,1,2,4,5,6,7,8,9,10,12] [3,11] [row b1 [.int .u8 k0,w64 n0,w64 n1,w64 n2,.int .u8 g] 28,row b6 [i64 k,.slice q5 ns.length c5] 32] [2] (G:=Nat) (fun b71=>[(3,str pl),(4,str (tx++qG g))]) (fun b71=>cM 0 (.slice q5 ns.length c5,ns)::row b2 [i64 k,.slice q5 ns.length c5] 32::Fr) Tryz.mixed (by kernel_rfl) ?_ ?_
  ·skip
   refine rQ (aj aa aa aa (ag isAgg32 sizeOf32 aa aa) .free aa ?_)
   refine aj aa aa aa (ak aa) .free aa (aj aa aa aa (ak aa) .free aa (aj aa aa aa (aD (m:=_) rj aa aa) .free aa (aj aa aa aa (ai isAgg5 aa aa) .free aa (aj aa aa aa (kq (c:=((g / 9:Nat):Int)) aa aa (by decide) (by rw[Int.tdiv_eq_ediv_of_nonneg (by omega)];exact(wN (by omega)).trans (by omega))) .free aa (aj aa aa aa (eQ (c:=((g / 9%4:Nat):Int)) aa aa (by decide) ((iU 4 (by omega)).trans (by omega))) .free aa (cu ?_))))))
   refine mK aa aa ?_ ?_
   ·skip
    refine kPb (Ao runUnderlying50 sizeOf9 zeroValue9 aa aa aa aa aa aa aa aa aa) aa fun b71=>(ad (qI (row b71 [str [],str [32],str [32,35,32,97,32,114,101,109,97,114,107],str [35]] 9) (gM (aj aa aa aa (cf runUnderlying50 sizeOf9 aa aa (by omega) (by omega)) .free aa (aj aa aa aa (bR (v:=str (qG g)) isAgg9 (SlR.row (b:=b71) (n:=4) (cap:=4) (off:=0) (cs:=[str [],str [32],str [32,35,32,97,32,114,101,109,97,114,107],str [35]]) aa aa) aa (by rw[Int.toNat_natCast];exact ht1)) .free aa ?_)))))
    refine aj aa aa aa (db aa aa (by first | omega | (simp only[List.length_append,List.length_cons,List.length_nil];omega))) .free aa ?_
    refine aS aa aa (kPs (ax (vs:=[i64 k,.slice q5 ns.length c5]) sizeOf32 aa aa aa aa aa) aa (ad (cG (aj aa aa aa (bu aa) .free aa (aR aa aa aa (bu aa) .free aa (cu ?_))))))
    exact fun a w st_=>⟨b71,st_.to (aE aa) (fun hh=>(hh.dp [0,1,1,1]))⟩
   ·skip
    refine kPs (ax (vs:=[i64 k,.slice q5 ns.length c5]) sizeOf32 aa aa aa aa aa) aa (ad (qH (BZ (aj aa aa aa (bu aa) .free aa (cu (BY aa ?_))))))
    ·skip
     refine kPb (Ao runUnderlying50 sizeOf9 zeroValue9 aa aa aa aa aa aa aa aa aa) aa fun b71=>(ad (qI (row b71 [str [],str [32],str [32,35,32,97,32,114,101,109,97,114,107],str [35]] 9) (gM (aj aa aa aa (cf runUnderlying50 sizeOf9 aa aa (by omega) (by omega)) .free aa (aj aa aa aa (bR (v:=str (qG g)) isAgg9 (SlR.row (b:=b71) (n:=4) (cap:=4) (off:=0) (cs:=[str [],str [32],str [32,35,32,97,32,114,101,109,97,114,107],str [35]]) aa aa) aa (by rw[Int.toNat_natCast];exact ht1)) .free aa ?_)))))
     refine aj aa aa aa (db aa aa (by first | omega | (simp only[List.length_append,List.length_cons,List.length_nil];omega))) .free aa ?_
     refine aR aa aa aa (bu aa) .free aa (cu ?_)
     exact fun a w st_=>⟨b71,st_.to (aE aa) (fun hh=>(hh.dp [0,1,1,1]))⟩
  intro b71
  refine cx (σ':=[(3,str pl),(4,str (tx++qG g)),(2,_)]) (aE aa) (az ?_)
  exact sf results12 (.cellA aa isAgg32 sizeOf32 aa aa) (.tmp aa) (.tmp aa) (fun w hh=>⟨_,⟨((k:Int),(q5,ns.length,c5),ns),rfl,hc.symm,by rw[hp,ht];rfl,rfl⟩,(hh.dp [1])⟩)
def Ln.row(x:Ln):List Value:= .int .u8 x.k::(x.n.map w64++[.int .u8 x.g])
theorem Ln.row_len{x:Ln}(h:LnW x):x.row.length=5:=by
 have:=h.n
 unfold Ln.row
 simp only[List.length_cons,List.length_append,List.length_map,List.length_nil]
 omega
theorem A7(B:World)(Fr:List HP)[cP Fr B](gl:GL B)(lf:LF B)(x:Ln)(hx:LnW x):
 ∀ w,Holds B Fr w→Calls Tryz.prog 12 [.agg x.row.toArray].toArray w (Ret B (fun v H'=>∃ t:CR,t.2.1.2.1=t.2.2.length∧crC t=x.c∧v= .tuple #[crV t,str (dI x.c),str x.t]∧H'=jJ t::Fr) (fun _ _=>False)):=by
 obtain⟨k,n,g⟩:=x
 match n,hx.n with
 | [a,b,c],_=>exact x4 B Fr gl lf k g hx.k hx.g a b c hx.b
theorem Ln.c_w{x:Ln}(hx:LnW x):ua x.c:=by
 obtain⟨k,n,g⟩:=x
 have hn:=hx.n
 have hf:=wq (k%18) (Nat.mod_lt _ (by decide))
 refine⟨⟨by show 0≤((k%18:Nat):Int);omega,by show((k%18:Nat):Int)<18;omega⟩,?_,fun m hm=>hx.b m (List.mem_of_mem_take hm)⟩
 show(n.take (fm (k%18))).length=fm ((k%18:Nat):Int).toNat
 rw[List.length_take,Int.toNat_natCast]
 simp only at hn
 omega
set_option maxRecDepth 100000 in
theorem je{H:Type}{enc:TypeId×Value→H}{W:World}{base:Nat}{held:Bool}{a:Option Addr}{len cap:Nat}{x:DataW H×List MemPlace}
 (h:∃ fuel,DataW.trod enc Tryz.prog W base (fun _=>true) held fuel 22 (Value.slice a len cap).cells.toList=some x):∃ f:Nat→Ln,len≤9223372036854775807∧(∀ i,i<len→LnW (f i))∧ly W a len 5 (fun i=>(f i).row):=by
 obtain⟨fuel,hf⟩:=h
 rcases Go.Deep.open_slice underlying22 hf with ⟨hcs,_⟩ | ⟨y,l,c,m,n,D,Pl,hcs,_,hl,hm,hmm,_,hx⟩
 ·simp[Value.cells] at hcs
  obtain⟨rfl,rfl,rfl⟩:=hcs
  exact⟨fun _=>⟨0,[],0⟩,by omega,fun i hi=>by omega,⟨fun i hi=>by omega⟩⟩
 ·simp[Value.cells] at hcs
  obtain⟨rfl,rfl,rfl⟩:=hcs
  unfold maxLen at hm
  simp only[if_true] at hmm
  have hc2:Tryz.prog.cellsOf 28=5:=by kernel_rfl
  have c1:Tryz.prog.cellsOf 25=1:=by kernel_rfl
  have each:∀ i,i<len→∃ x:Ln,LnW x∧∀ j,j<5→W.cell? ((y.add (i*5)).add j)=x.row[j]? :=fun i hi=>by
   obtain⟨cs,h1,h2⟩:=hx i (by omega)
   rw[hc2] at h1
   obtain⟨y0,y1,y2,n,_,hlen,g0,g1,g2⟩:=Go.Deep.trod_struct3 underlying28 h2
   rw[hc2] at hlen
   match cs,hlen with
   | [u,p,q,r,v],_=>
     obtain⟨k,ek,_,wk⟩:=DataW.trod_int underlying5 g0
     obtain⟨g,eg,_,wg⟩:=DataW.trod_int underlying5 g2
     have ek:[u]=[Value.int .u8 k]:=ek
     have eg:[v]=[Value.int .u8 g]:=eg
     cases ek;cases eg
     have bk:=bounds_u8 wk
     have bg:=bounds_u8 wg
     obtain⟨k,rfl⟩:=Int.eq_ofNat_of_zero_le bk.1
     obtain⟨g,rfl⟩:=Int.eq_ofNat_of_zero_le bg.1
     have g1:DataW.trod enc Tryz.prog W base (fun _=>true) held n 26 [p,q,r]=some y1:=g1
     obtain⟨xs,m',_,_,_,hxl,hel⟩:=DataW.trod_array underlying26 g1
     have one:∀ i,(hi:i<3)→∃ a,[p,q,r][i]? =some (w64 a)∧0≤a∧a<18446744073709551616:=fun i hi=>by
      have h1:=hel i hi
      rw[c1,List.getElem?_eq_getElem (by omega),Nat.mul_one] at h1
      obtain⟨a,e,_,wa⟩:=DataW.trod_int underlying25 h1
      have e2:(([p,q,r].drop i).take 1)[0]? =some (w64 a):=congrArg (fun l=>l[0]?) e
      have hw:=bounds_u64 wa
      exact⟨a,by simpa using e2,by omega,by omega⟩
     obtain⟨a,ea,ha⟩:=one 0 (by decide)
     obtain⟨b,eb,hb⟩:=one 1 (by decide)
     obtain⟨c,ec,hc⟩:=one 2 (by decide)
     cases ea;cases eb;cases ec
     have hs:=World.cells?_some h1
     refine⟨⟨k,[a,b,c],g⟩,⟨by simp only;omega,rfl,fun n hn=> ?_,by simp only;omega⟩,fun j hj=> ?_⟩
     ·simp only[List.mem_cons,List.not_mem_nil,or_false] at hn
      rcases hn with rfl | rfl | rfl
      ·exact ha
      ·exact hb
      ·exact hc
     ·match j,hj with
      | 0,_=>exact hs.2.2 0 (by decide)
      | 1,_=>exact hs.2.2 1 (by decide)
      | 2,_=>exact hs.2.2 2 (by decide)
      | 3,_=>exact hs.2.2 3 (by decide)
      | 4,_=>exact hs.2.2 4 (by decide)
  obtain⟨b,o,s⟩:=y
  by_cases h0:len=0
  ·exact⟨fun _=>⟨0,[],0⟩,by omega,fun i hi=>by omega,⟨fun i hi=>by omega⟩⟩
  have hs:s=none:=by
   obtain⟨p,_,h1⟩:=each 0 (by omega)
   have h1:W.cell? ⟨b,o,s⟩=some _:=h1 0 (by decide)
   unfold World.cell? at h1
   split at h1
   ·cases s with
    | none=>rfl
    | some q=>simp at h1
   ·cases h1
  subst hs
  have each:∀ i,i<len→∃ x:Ln,LnW x∧∀ j,j<5→W.cell? ⟨b,o+(i*5+j),none⟩=x.row[j]? :=fun i hi=>by
   obtain⟨x,h1,h2⟩:=each i hi
   exact⟨x,h1,fun j hj=>by rw[←h2 j hj,fu,fu,Nat.add_assoc]⟩
  refine⟨fun i=>if hi:i<len then (each i hi).choose else ⟨0,[],0⟩,by omega,fun i hi=> ?_,⟨fun i hi=>⟨b,o,rfl,?_,fun j hj=> ?_⟩⟩⟩
  ·simp only[dif_pos hi]
   exact(each i hi).choose_spec.1
  ·simp only[dif_pos hi]
   exact Ln.row_len (each i hi).choose_spec.1
  ·have h2:=(each i hi).choose_spec.2 j hj
   simp only[dif_pos hi]
   exact h2
theorem Ln.lit{x:Ln}(hx:LnW x):∃ k a b c g,x=⟨k,[a,b,c],g⟩:=by
 obtain⟨k,n,g⟩:=x
 match n,hx.n with
 | [a,b,c],_=>exact⟨k,a,b,c,g,rfl⟩
theorem y9(B:World)(Fr:List HP)[cP Fr B](gl:GL B)(lf:LF B)(x:Ln)(hx:LnW x){k g:Nat}{a b c:Int}(e:x=⟨k,[a,b,c],g⟩):
 ∀ w,Holds B Fr w→Calls Tryz.prog 12 [.agg #[.int .u8 k,w64 a,w64 b,w64 c,.int .u8 g]].toArray w (Ret B (fun v H'=>∃ t:CR,t.2.1.2.1=t.2.2.length∧crC t=x.c∧v= .tuple #[crV t,str (dI x.c),str x.t]∧H'=jJ t::Fr) (fun _ _=>False)):=by
 subst e
 exact A7 B Fr gl lf _ hx
theorem AT{n:Nat}{f:Nat→Ln}{i k g:Nat}{a b c:Int}(hi:i<n)(e:f i=⟨k,[a,b,c],g⟩):((List.range n).map fun i=>(f i).row)[i]? =some [.int .u8 k,w64 a,w64 b,w64 c,.int .u8 g]:=by
 rw[List.getElem?_map,List.getElem?_range hi,Option.map_some,e];rfl
theorem qu(c:UInt8):∀ (s:List UInt8) (n:Nat),ja n (s++[c])=(ja n s).bind fun m=>ja m [c]
 | [],n=>rfl
 | d::t,n=>by
   rw[List.cons_append]
   unfold ja
   split
   ·rfl
   ·exact qu c t _
theorem nq{d:Nat}(h:d<10):(UInt8.ofNat (48+d)).toNat=48+d:=by
 rw[UInt8.toNat_ofNat_of_lt' (by show 48+d<256;omega)]
theorem z6(u:Nat):u<18446744073709551616→ja 0 (Lib.decDigits u)=some u:=by
 induction u using Nat.strongRecOn with
 | _ u ih=>
   intro h
   by_cases h1:u<10
   ·rw[ir h1]
    unfold ja
    rw[nq h1,if_neg (by omega)]
    unfold ja
    congr 1
    omega
   ·rw[o8 h1,qu,ih (u / 10) (by omega) (by omega)]
    show ja (u / 10) [_]=_
    unfold ja
    rw[nq (Nat.mod_lt _ (by decide)),if_neg (by omega)]
    unfold ja
    congr 1
    omega
theorem Aa(u:Nat):∀ x∈Lib.decDigits u,48≤x.toNat∧x.toNat≤57:=by
 induction u using Nat.strongRecOn with
 | _ u ih=>
   intro x hx
   by_cases h1:u<10
   ·rw[ir h1] at hx
    rw[List.mem_singleton.1 hx,nq h1]
    omega
   ·rw[o8 h1] at hx
    rcases List.mem_append.1 hx with hx | hx
    ·exact ih (u / 10) (by omega) x hx
    ·rw[List.mem_singleton.1 hx,nq (Nat.mod_lt _ (by decide))]
     have:=Nat.mod_lt u (show 0<10 by decide)
     omega
theorem CJ{u:Nat}(h:u<18446744073709551616):num (Lib.decDigits u)=some u:=by
 rw[←rp]
 unfold C6
 have hl:=lq u (by omega)
 rw[if_neg,z6 u h]
 rintro(h1 | h1 | ⟨h1,h2⟩)
 ·exact z8 u h1
 ·omega
 ·by_cases hz:1≤u
  ·exact wA u hz h1
  ·obtain rfl:u=0:=by omega
   rw[ir (by decide)] at h2
   simp at h2
abbrev ddI(n:Int):List UInt8:=Lib.decDigits n.toNat
theorem sC:∀ (ns:List Int),(∀ n∈ns,0≤n∧n<18446744073709551616)→hZ (ns.map ddI)=some ns
 | [],_=>rfl
 | n::t,h=>by
   have h1:=h n (List.mem_cons_self ..)
   have h2:=sC t fun m hm=>h m (List.mem_cons_of_mem _ hm)
   simp only[List.map_cons,hZ]
   rw[CJ (by omega),h2]
   simp only[Option.map_some]
   rw[Int.toNat_of_nonneg h1.1]
abbrev Bla(l:List UInt8):Prop:=∀ x∈l,pE x=true
abbrev Sol(l:List UInt8):Prop:=∀ x∈l,pE x=false
theorem uc:∀ {b t:List UInt8},Bla b→tok (b++t) none=tok t none
 | [],t,_=>rfl
 | x::b,t,h=>by
   rw[List.cons_append,tok,if_pos (h x (List.mem_cons_self ..))]
   exact uc fun y hy=>h y (List.mem_cons_of_mem _ hy)
theorem vn{b t c:List UInt8}(hb:Bla b)(hn:b≠[]):tok (b++t) (some c)=c::tok t none:=by
 cases b with
 | nil=>exact absurd aa hn
 | cons x b=>
   rw[List.cons_append,tok,if_pos (hb x (List.mem_cons_self ..))]
   rw[uc fun y hy=>hb y (List.mem_cons_of_mem _ hy)]
theorem AI{b c:List UInt8}(hb:Bla b):tok b (some c)=[c]:=by
 cases b with
 | nil=>rfl
 | cons x b=>
   have:=vn (t:=[]) (c:=c) hb (by simp)
   rw[List.append_nil] at this
   rw[this];rfl
theorem vm:∀ {w t c:List UInt8},Sol w→tok (w++t) (some c)=tok t (some (c++w))
 | [],t,c,_=>by simp
 | x::w,t,c,h=>by
   rw[List.cons_append,tok,if_neg (by rw[h x (List.mem_cons_self ..)];decide),vm fun y hy=>h y (List.mem_cons_of_mem _ hy)]
   simp
theorem yc{w t:List UInt8}(h:Sol w)(hn:w≠[]):tok (w++t) none=tok t (some w):=by
 cases w with
 | nil=>exact absurd aa hn
 | cons x w=>
   rw[List.cons_append,tok,if_neg (by rw[h x (List.mem_cons_self ..)];decide),vm fun y hy=>h y (List.mem_cons_of_mem _ hy)]
   simp
theorem z7(n:Int):Sol (ddI n):=fun x hx=>by
 have h:=Aa _ x hx
 unfold pE
 simp only[Bool.or_eq_false_iff,beq_eq_false_iff_ne,ne_eq]
 constructor<;>rintro rfl<;>revert h<;>decide
theorem rM{sep tl:List UInt8}(hs:Bla sep)(hn:sep≠[])(ht:Bla tl):∀ (ns:List Int) (c:List UInt8),tok ((ns.flatMap fun n=>sep++ddI n)++tl) (some c)=c::ns.map ddI
 | [],c=>AI ht
 | n::t,c=>by
   rw[List.flatMap_cons,List.append_assoc,List.append_assoc,vn hs hn,yc (z7 n) (z8 _),rM hs hn ht t]
   rfl
theorem oP{sep:List UInt8}:∀ (ns:List Int) (a:List UInt8),ns.foldl (fun l n=>l++(sep++ddI n)) a=a++ns.flatMap fun n=>sep++ddI n
 | [],a=>by simp
 | n::t,a=>by
   rw[List.foldl_cons,oP t,List.flatMap_cons]
   simp only[List.append_assoc]
abbrev Cal(l:List UInt8):Prop:=∀ x∈l,x≠10∧x≠35
theorem Cal.app{a b:List UInt8}(ha:Cal a)(hb:Cal b):Cal (a++b):=fun x hx=>by
 rcases List.mem_append.1 hx with h | h
 ·exact ha x h
 ·exact hb x h
theorem BI{a b:List UInt8}(ha:Cal a):dr (a++b)=a++dr b:=by
 unfold dr
 rw[List.takeWhile_append_of_pos fun x hx=>by simpa using(ha x hx).2]
theorem C8(n:Int):Cal (ddI n):=fun x hx=>by
 have h:=Aa _ x hx
 constructor<;>rintro rfl<;>revert h<;>decide
theorem yX{sep:List UInt8}(hs:Cal sep)(ns:List Int):Cal (ns.flatMap fun n=>sep++ddI n):=fun x hx=>by
 obtain⟨n,_,h⟩:=List.mem_flatMap.1 hx
 exact(Cal.app hs (C8 n)) x h
theorem uP:∀ k,k<18→((fw k).all fun x=> !pE x&&(x !=10&&x !=35))=true∧fw k≠[]:=by decide
theorem zw{k:Nat}(h:k<18):Sol (fw k):=fun x hx=>by
 have:=List.all_eq_true.1 (uP k h).1 x hx
 simp only[Bool.and_eq_true,Bool.not_eq_true'] at this
 exact this.1
theorem CU{k:Nat}(h:k<18):Cal (fw k):=fun x hx=>by
 have:=List.all_eq_true.1 (uP k h).1 x hx
 simp only[Bool.and_eq_true,bne_iff_ne] at this
 exact this.2
theorem A8:∀ k,k<18→j6 (fw k)=some (k,fm k):=by decide
structure kC(l:List UInt8)(o:Option Cmd):Prop where
 nl:∀ x∈l,x≠10
 p:(o=none∧tok (dr l) none=[])∨∃ c,o=some c∧tok (dr l) none≠[]∧cK (tok (dr l) none)=(c,0)
theorem zc{k:Nat}(hk:k<18){ns:List Int}(hl:ns.length=fm k)(hb:∀ n∈ns,0≤n∧n<18446744073709551616){pre sep tl:List UInt8}(hp:Bla pre)(hp2:Cal pre)(hs:Bla sep)(hs2:Cal sep)(hn:sep≠[])(ht:Bla (dr tl))(ht2:∀ x∈tl,x≠10):
 kC (pre++fw k++(ns.flatMap fun n=>sep++ddI n)++tl) (some ((k:Int),ns)):=by
 have hc:Cal (pre++fw k++ns.flatMap fun n=>sep++ddI n):=(hp2.app (CU hk)).app (yX hs2 ns)
 have ht3:tok (dr (pre++fw k++(ns.flatMap fun n=>sep++ddI n)++tl)) none=fw k::ns.map ddI:=by
  rw[BI hc,List.append_assoc,List.append_assoc,uc hp,yc (zw hk) (uP k hk).2,rM hs hn ht]
 refine⟨fun x hx=> ?_,.inr ⟨_,rfl,by rw[ht3];simp,?_⟩⟩
 ·rcases List.mem_append.1 hx with h | h
  ·exact(hc x h).1
  ·exact ht2 x h
 ·rw[ht3]
  unfold cK
  rw[show(fw k::ns.map ddI).getD 0 []=fw k from rfl,A8 k hk]
  simp only
  rw[if_neg (by simp[hl]),show(fw k::ns.map ddI).drop 1=ns.map ddI from rfl,sC ns hb]
theorem ua.nat{c:Cmd}(h:ua c):∃ k:Nat,k<18∧c.1=k∧c.2.length=fm k:=by
 obtain⟨k,ns⟩:=c
 have h1:=h.k
 have h2:=h.n
 obtain⟨k,rfl⟩:=Int.eq_ofNat_of_zero_le h1.1
 exact⟨k,by simp only at h1;omega,rfl,h2⟩
theorem sS{c:Cmd}(h:ua c){k:Nat}(hk:c.1=k):dI c=fw k++c.2.flatMap fun n=>[32]++ddI n:=by
 unfold dI
 have:=h.k
 rw[if_neg (by omega),hk,Int.toNat_natCast]
 exact oP c.2 (fw k)
theorem ze{c:Cmd}(h:ua c):kC (dI c) (some c):=by
 obtain⟨k,hk,e,hl⟩:=h.nat
 have:=zc hk hl h.b (pre:=[]) (sep:=[32]) (tl:=[]) (by decide) (by decide) (by decide) (by decide) (by decide) (by decide) (by decide)
 rw[sS h e]
 rw[←e] at this
 simpa using this
theorem pR{f:Int→List UInt8}{new:List UInt8}{c:UInt8}:∀ ns:List Int,iw c new (ns.flatMap f)=ns.flatMap fun n=>iw c new (f n)
 | []=>rfl
 | n::t=>by
   have:=pR (f:=f) (new:=new) (c:=c) t
   unfold iw at this ⊢
   rw[List.flatMap_cons,List.flatMap_cons,List.flatMap_append,this]
theorem B1{l:List UInt8}(h:Sol l):∀ x∈l,x≠32:=fun x hx e=>by
 subst e
 have:=h 32 hx
 revert this;decide
def sT(c:Cmd)(note:List UInt8):List UInt8:=[32]++iw 32 [32,9] (dI c)++([32,35]++note)
theorem zf{c:Cmd}(h:ua c){note:List UInt8}(hn:∀ x∈note,x≠10):kC (sT c note) (some c):=by
 obtain⟨k,hk,e,hl⟩:=h.nat
 have ht:dr ([32,35]++note)=[32]:=rfl
 have:=zc hk hl h.b (pre:=[32]) (sep:=[32,9]) (tl:=[32,35]++note) (by decide) (by decide) (by decide) (by decide) (by decide) (by rw[ht];decide) (fun x hx=>by
  rcases List.mem_append.1 hx with h1 | h1
  ·exact(show ∀ x∈([32,35]:List UInt8),x≠10 by decide) x h1
  ·exact hn x h1)
 have e2:iw 32 [32,9] (dI c)=fw k++c.2.flatMap fun n=>[32,9]++ddI n:=by
  rw[sS h e]
  have e3:∀ a b:List UInt8,iw 32 [32,9] (a++b)=iw 32 [32,9] a++iw 32 [32,9] b:=fun a b=>by unfold iw;rw[List.flatMap_append]
  rw[e3,iT (B1 (zw hk)),pR]
  congr 2
  funext n
  rw[e3,iT (B1 (z7 n))]
  rfl
 unfold sT
 rw[e2]
 rw[←e] at this
 simpa using this
def di(L:List (List UInt8)):List UInt8:=L.flatMap fun l=>l++[10]
theorem nK(a b:List (List UInt8)):di (a++b)=di a++di b:=by unfold di;rw[List.flatMap_append]
theorem rV(r:List UInt8):∀ (L:List (List UInt8)),(∀ l∈L,∀ x∈l,x≠10)→spl 10 (di L++r)=L++spl 10 r
 | [],_=>rfl
 | l::L,h=>by
   have h1:=rV r L fun a ha=>h a (List.mem_cons_of_mem _ ha)
   have e:di (l::L)++r=l++(10::(di L++r)):=by simp[di]
   rw[e,ne _ _ (h l (List.mem_cons_self ..))]
   rw[show spl 10 (10::(di L++r))=[]::spl 10 (di L++r) by rw[spl,if_pos rfl],h1]
   simp
abbrev LO:=List UInt8×Option Cmd
theorem mo:∀ (L:List LO) (x:PSt),(∀ p∈L,kC p.1 p.2)→0≤x.1→x.1+L.length≤1000000→x.2.1.length+(L.filterMap Prod.snd).length≤400→
 itl stP (L.map Prod.fst) x=(true,x.1+L.length,x.2.1++L.filterMap Prod.snd,x.2.2)
 | [],x,_,_,_,_=>by simp[itl]
 | (l,o)::L,x,h,h0,h1,h2=>by
   have hl:=h _ (List.mem_cons_self ..)
   have hw:IntKind.i64.wrap (x.1+1)=x.1+1:=gQ (by simp only[List.length_cons] at h1;omega)
   rw[List.map_cons,itl]
   simp only[List.length_cons] at h1
   rcases hl.p with ⟨e1,e2⟩ | ⟨c,e1,e2,e3⟩
   ·simp only at e1 e2
    subst e1
    have hs:stP l x=(true,x.1+1,x.2.1,x.2.2):=by unfold stP;simp only[e2,hw,if_true]
    rw[hs,if_pos rfl,mo L _ (fun p hp=>h p (List.mem_cons_of_mem _ hp)) (by simp only;omega) (by simp only;omega) (by simpa using h2)]
    simp only[List.length_cons,List.filterMap_cons,Prod.mk.injEq,true_and,and_true]
    omega
   ·simp only at e1 e2 e3
    subst e1
    simp only[List.filterMap_cons,List.length_cons] at h2
    have hs:stP l x=(true,x.1+1,x.2.1++[c],x.2.2):=by
     unfold stP
     simp only[hw]
     rw[if_neg e2,if_neg (by omega),if_neg (by rw[e3];simp),e3]
    rw[hs,if_pos rfl,mo L _ (fun p hp=>h p (List.mem_cons_of_mem _ hp)) (by simp only;omega) (by simp only;omega) (by simp only[List.length_append,List.length_cons,List.length_nil];omega)]
    simp only[List.length_cons,List.filterMap_cons,Prod.mk.injEq,true_and,List.append_assoc,List.cons_append,List.nil_append,and_true]
    omega
theorem sR:kC [] none:=⟨by decide,.inl ⟨rfl,rfl⟩⟩
theorem oe{L:List LO}(h:∀ p∈L,kC p.1 p.2)(hl:(di (L.map Prod.fst)).length≤65536)(hn:(L.filterMap Prod.snd).length≤400)(hL:L.length≤100000):eP (di (L.map Prod.fst))=(L.filterMap Prod.snd,0,0):=by
 have e:=rV [] (L.map Prod.fst) fun l hl x hx=>by
  obtain⟨p,hp,rfl⟩:=List.mem_map.1 hl
  exact(h p hp).nl x hx
 rw[List.append_nil] at e
 have e2:spl 10 (di (L.map Prod.fst))=(L++[([],none)]).map Prod.fst:=by rw[e];simp[spl]
 have e3:=mo (L++[([],none)]) p0 (fun p hp=>by
  rcases List.mem_append.1 hp with h1 | h1
  ·exact h p h1
  ·rw[List.mem_singleton.1 h1];exact sR) (by decide) (by simp[p0];omega) (by simpa [p0] using hn)
 unfold eP
 rw[if_neg (by omega),e2,e3]
 simp[p0]
namespace scriptRemarks
theorem DK:(Rows.scriptRemarksRow.inPlace==Tryz.pinned.checked.prog.inPlace 10)=true:=by kernel_rfl
theorem DJ:(Rows.scriptRemarksRow.unfollowed==Tryz.pinned.checked.prog.unfollowed 10)=true:=by kernel_rfl
theorem DH:(Rows.scriptRemarksRow.recurses==Tryz.pinned.checked.prog.recurses 10)=true:=by kernel_rfl
theorem DG:(Rows.scriptRemarksRow.named==Tryz.pinned.checked.prog.varsNamed 10)=true:=by kernel_rfl
theorem DF:joinedFacts Tryz.pinned.checked.prog 10 Tryz.f10 Rows.scriptRemarksSpec Rows.scriptRemarksRow=true:=by
 unfold joinedFacts
 rw[DK,DJ,DH,DG]
 kernel_rfl
theorem named:Tryz.pinned.checked.prog.funcNamed Rows.scriptRemarksRow.func=some 10:=by kernel_rfl
theorem DZ:Tryz.f10.isInstance Tryz.pinned.checked.prog Rows.scriptRemarksRow.origin Rows.scriptRemarksRow.targs:=of_decide_eq_true (by kernel_rfl)
theorem wrap:Tryz.f10.isWrapper Tryz.pinned.checked.prog Rows.scriptRemarksRow.wrapper Rows.scriptRemarksRow.mainSum:=by unfold Func.isWrapper;first | (rw[if_pos (by decide+kernel)];kernel_rfl) | (rw[if_neg (by decide+kernel)];exact⟨rfl,rfl⟩)
end scriptRemarks
end Go.Proofs.YtoakdoeajpjgkaaGreatDoor
