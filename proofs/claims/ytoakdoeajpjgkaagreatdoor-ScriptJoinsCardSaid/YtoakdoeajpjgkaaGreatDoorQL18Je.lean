/- Part of a law's texts. Conditions: none. -/
import Derived.Test.YtoakdoeajpjgkaaGreatDoorQL18Jd
import Derived.Test.YtoakdoeajpjgkaaGreatDoorRows
open Go.Proofs.Tryz
set_option linter.all false
namespace Go.Proofs.YtoakdoeajpjgkaaGreatDoor
open Go
theorem ba{P:Program}{S f sz:Nat}{fs:Array Field}(t off:Nat)(hS:∀ w,(underlying S).run P w= .ok (.struct fs) w)(hf:(fs[f]?).map (fun fd=>(fd.type,fd.offset))=some (t,off))(hz:∀ w,(sizeOf t).run P w= .ok sz w)(h0:sz≠0)(b k:Nat)(w:World):
 (Instr.fieldAt S (.pointer (some ⟨b,k,none⟩)) f).run P w= .ok (.pointer (some ⟨b,k+off,none⟩)) w:=by
 have ha:(⟨b,k,none⟩:Addr).add off=⟨b,k+off,none⟩:=by
  unfold Addr.add;split
  ·rename_i e;rw[e];rfl
  ·rfl
 cases e:fs[f]? with
 | none=>rw[e] at hf;cases hf
 | some fd=>
   rw[e] at hf
   simp only[Option.map_some,Option.some.injEq,Prod.mk.injEq] at hf
   obtain⟨h1,h2⟩:=hf
   subst h1;subst h2
   simp[Instr.fieldAt,hS,e,Instr.sureAddr,fieldPlace,hz,h0,ha]
theorem Tryz.mixed:Tryz.prog.follows .mixedOrders=true:=by kernel_rfl
theorem B5:∀ b k w,(Instr.fieldAt 28 (.pointer (some ⟨b,k,none⟩)) 0).run Tryz.prog w= .ok (.pointer (some ⟨b,k+0,none⟩)) w:=ba 5 0 runUnderlying28 rfl sizeOf5 (by decide)
theorem B4:∀ b k w,(Instr.fieldAt 28 (.pointer (some ⟨b,k,none⟩)) 1).run Tryz.prog w= .ok (.pointer (some ⟨b,k+1,none⟩)) w:=ba 26 1 runUnderlying28 rfl sizeOf26 (by decide)
theorem rZ:∀ b k w,(Instr.fieldAt 28 (.pointer (some ⟨b,k,none⟩)) 2).run Tryz.prog w= .ok (.pointer (some ⟨b,k+4,none⟩)) w:=ba 5 4 runUnderlying28 rfl sizeOf5 (by decide)
theorem kS:∀ b k w,(Instr.fieldAt 32 (.pointer (some ⟨b,k,none⟩)) 0).run Tryz.prog w= .ok (.pointer (some ⟨b,k+0,none⟩)) w:=ba 29 0 runUnderlying32 rfl sizeOf29 (by decide)
theorem iG:∀ b k w,(Instr.fieldAt 32 (.pointer (some ⟨b,k,none⟩)) 1).run Tryz.prog w= .ok (.pointer (some ⟨b,k+1,none⟩)) w:=ba 30 1 runUnderlying32 rfl sizeOf30 (by decide)
theorem B3:∀ b k w,(Instr.fieldAt 55 (.pointer (some ⟨b,k,none⟩)) 0).run Tryz.prog w= .ok (.pointer (some ⟨b,k+0,none⟩)) w:=ba 9 0 runUnderlying55 rfl sizeOf9 (by decide)
theorem B2:∀ b k w,(Instr.fieldAt 55 (.pointer (some ⟨b,k,none⟩)) 1).run Tryz.prog w= .ok (.pointer (some ⟨b,k+1,none⟩)) w:=ba 3 1 runUnderlying55 rfl sizeOf3 (by decide)
theorem w3:∀ b k w,(Instr.fieldAt 61 (.pointer (some ⟨b,k,none⟩)) 0).run Tryz.prog w= .ok (.pointer (some ⟨b,k+0,none⟩)) w:=ba 9 0 runUnderlying61 rfl sizeOf9 (by decide)
theorem B1:∀ b k w,(Instr.fieldAt 61 (.pointer (some ⟨b,k,none⟩)) 1).run Tryz.prog w= .ok (.pointer (some ⟨b,k+1,none⟩)) w:=ba 3 1 runUnderlying61 rfl sizeOf3 (by decide)
theorem nE:∀ b k w,(Instr.fieldAt 74 (.pointer (some ⟨b,k,none⟩)) 0).run Tryz.prog w= .ok (.pointer (some ⟨b,k+0,none⟩)) w:=ba 71 0 runUnderlying74 rfl sizeOf71 (by decide)
theorem kR:∀ b k w,(Instr.fieldAt 74 (.pointer (some ⟨b,k,none⟩)) 1).run Tryz.prog w= .ok (.pointer (some ⟨b,k+1,none⟩)) w:=ba 72 1 runUnderlying74 rfl sizeOf72 (by decide)
theorem B0:∀ b k w,(Instr.fieldAt 96 (.pointer (some ⟨b,k,none⟩)) 0).run Tryz.prog w= .ok (.pointer (some ⟨b,k+0,none⟩)) w:=ba 48 0 runUnderlying96 rfl sizeOf48 (by decide)
theorem BZ:∀ b k w,(Instr.fieldAt 96 (.pointer (some ⟨b,k,none⟩)) 1).run Tryz.prog w= .ok (.pointer (some ⟨b,k+1,none⟩)) w:=ba 48 1 runUnderlying96 rfl sizeOf48 (by decide)
theorem BY:∀ b k w,(Instr.fieldAt 96 (.pointer (some ⟨b,k,none⟩)) 2).run Tryz.prog w= .ok (.pointer (some ⟨b,k+2,none⟩)) w:=ba 48 2 runUnderlying96 rfl sizeOf48 (by decide)
theorem iv:∀ b k w,(Instr.fieldAt 102 (.pointer (some ⟨b,k,none⟩)) 0).run Tryz.prog w= .ok (.pointer (some ⟨b,k+0,none⟩)) w:=ba 3 0 runUnderlying102 rfl sizeOf3 (by decide)
theorem fZ:∀ b k w,(Instr.fieldAt 102 (.pointer (some ⟨b,k,none⟩)) 1).run Tryz.prog w= .ok (.pointer (some ⟨b,k+1,none⟩)) w:=ba 3 1 runUnderlying102 rfl sizeOf3 (by decide)
theorem Ak:∀ b k w,(Instr.fieldAt 106 (.pointer (some ⟨b,k,none⟩)) 0).run Tryz.prog w= .ok (.pointer (some ⟨b,k+0,none⟩)) w:=ba 3 0 runUnderlying106 rfl sizeOf3 (by decide)
theorem Aj:∀ b k w,(Instr.fieldAt 106 (.pointer (some ⟨b,k,none⟩)) 1).run Tryz.prog w= .ok (.pointer (some ⟨b,k+1,none⟩)) w:=ba 3 1 runUnderlying106 rfl sizeOf3 (by decide)
theorem Ai:∀ b k w,(Instr.fieldAt 106 (.pointer (some ⟨b,k,none⟩)) 2).run Tryz.prog w= .ok (.pointer (some ⟨b,k+2,none⟩)) w:=ba 3 2 runUnderlying106 rfl sizeOf3 (by decide)
theorem Ah:∀ b k w,(Instr.fieldAt 106 (.pointer (some ⟨b,k,none⟩)) 3).run Tryz.prog w= .ok (.pointer (some ⟨b,k+3,none⟩)) w:=ba 3 3 runUnderlying106 rfl sizeOf3 (by decide)
theorem Ag:∀ b k w,(Instr.fieldAt 106 (.pointer (some ⟨b,k,none⟩)) 4).run Tryz.prog w= .ok (.pointer (some ⟨b,k+4,none⟩)) w:=ba 4 4 runUnderlying106 rfl sizeOf4 (by decide)
theorem iu:∀ b k w,(Instr.fieldAt 134 (.pointer (some ⟨b,k,none⟩)) 0).run Tryz.prog w= .ok (.pointer (some ⟨b,k+0,none⟩)) w:=ba 3 0 runUnderlying134 rfl sizeOf3 (by decide)
theorem fY:∀ b k w,(Instr.fieldAt 134 (.pointer (some ⟨b,k,none⟩)) 1).run Tryz.prog w= .ok (.pointer (some ⟨b,k+1,none⟩)) w:=ba 3 1 runUnderlying134 rfl sizeOf3 (by decide)
theorem fj:∀ b k w,(Instr.fieldAt 134 (.pointer (some ⟨b,k,none⟩)) 2).run Tryz.prog w= .ok (.pointer (some ⟨b,k+2,none⟩)) w:=ba 3 2 runUnderlying134 rfl sizeOf3 (by decide)
theorem Af:∀ b k w,(Instr.fieldAt 145 (.pointer (some ⟨b,k,none⟩)) 1).run Tryz.prog w= .ok (.pointer (some ⟨b,k+3,none⟩)) w:=ba 141 3 runUnderlying145 rfl sizeOf141 (by decide)
theorem Ae:∀ b k w,(Instr.fieldAt 145 (.pointer (some ⟨b,k,none⟩)) 2).run Tryz.prog w= .ok (.pointer (some ⟨b,k+4,none⟩)) w:=ba 3 4 runUnderlying145 rfl sizeOf3 (by decide)
theorem ul:∀ b k w,(Instr.fieldAt 145 (.pointer (some ⟨b,k,none⟩)) 3).run Tryz.prog w= .ok (.pointer (some ⟨b,k+5,none⟩)) w:=ba 141 5 runUnderlying145 rfl sizeOf141 (by decide)
theorem Ad:∀ b k w,(Instr.fieldAt 145 (.pointer (some ⟨b,k,none⟩)) 4).run Tryz.prog w= .ok (.pointer (some ⟨b,k+6,none⟩)) w:=ba 4 6 runUnderlying145 rfl sizeOf4 (by decide)
theorem Ac:∀ b k w,(Instr.fieldAt 145 (.pointer (some ⟨b,k,none⟩)) 5).run Tryz.prog w= .ok (.pointer (some ⟨b,k+7,none⟩)) w:=ba 142 7 runUnderlying145 rfl sizeOf142 (by decide)
theorem ir:∀ b k w,(Instr.fieldAt 149 (.pointer (some ⟨b,k,none⟩)) 0).run Tryz.prog w= .ok (.pointer (some ⟨b,k+0,none⟩)) w:=ba 90 0 runUnderlying149 rfl sizeOf90 (by decide)
theorem ed:∀ b k w,(Instr.fieldAt 149 (.pointer (some ⟨b,k,none⟩)) 1).run Tryz.prog w= .ok (.pointer (some ⟨b,k+1,none⟩)) w:=ba 134 1 runUnderlying149 rfl sizeOf134 (by decide)
theorem dQ:∀ b k w,(Instr.fieldAt 149 (.pointer (some ⟨b,k,none⟩)) 2).run Tryz.prog w= .ok (.pointer (some ⟨b,k+4,none⟩)) w:=ba 146 4 runUnderlying149 rfl sizeOf146 (by decide)
theorem jd:∀ b k w,(Instr.fieldAt 149 (.pointer (some ⟨b,k,none⟩)) 3).run Tryz.prog w= .ok (.pointer (some ⟨b,k+5,none⟩)) w:=ba 130 5 runUnderlying149 rfl sizeOf130 (by decide)
theorem kr:∀ b k w,(Instr.fieldAt 149 (.pointer (some ⟨b,k,none⟩)) 4).run Tryz.prog w= .ok (.pointer (some ⟨b,k+6,none⟩)) w:=ba 147 6 runUnderlying149 rfl sizeOf147 (by decide)
theorem iq:∀ b k w,(Instr.fieldAt 151 (.pointer (some ⟨b,k,none⟩)) 0).run Tryz.prog w= .ok (.pointer (some ⟨b,k+0,none⟩)) w:=ba 3 0 runUnderlying151 rfl sizeOf3 (by decide)
theorem dE:∀ b k w,(Instr.fieldAt 151 (.pointer (some ⟨b,k,none⟩)) 1).run Tryz.prog w= .ok (.pointer (some ⟨b,k+1,none⟩)) w:=ba 3 1 runUnderlying151 rfl sizeOf3 (by decide)
theorem fh:∀ b k w,(Instr.fieldAt 151 (.pointer (some ⟨b,k,none⟩)) 2).run Tryz.prog w= .ok (.pointer (some ⟨b,k+2,none⟩)) w:=ba 30 2 runUnderlying151 rfl sizeOf30 (by decide)
theorem Ab:∀ b k w,(Instr.fieldAt 155 (.pointer (some ⟨b,k,none⟩)) 0).run Tryz.prog w= .ok (.pointer (some ⟨b,k+0,none⟩)) w:=ba 3 0 runUnderlying155 rfl sizeOf3 (by decide)
theorem Aa:∀ b k w,(Instr.fieldAt 155 (.pointer (some ⟨b,k,none⟩)) 1).run Tryz.prog w= .ok (.pointer (some ⟨b,k+1,none⟩)) w:=ba 3 1 runUnderlying155 rfl sizeOf3 (by decide)
theorem fc:∀ b k w,(Instr.fieldAt 160 (.pointer (some ⟨b,k,none⟩)) 0).run Tryz.prog w= .ok (.pointer (some ⟨b,k+0,none⟩)) w:=ba 102 0 runUnderlying160 rfl sizeOf102 (by decide)
theorem kq:∀ b k w,(Instr.fieldAt 160 (.pointer (some ⟨b,k,none⟩)) 1).run Tryz.prog w= .ok (.pointer (some ⟨b,k+2,none⟩)) w:=ba 3 2 runUnderlying160 rfl sizeOf3 (by decide)
theorem ip:∀ b k w,(Instr.fieldAt 171 (.pointer (some ⟨b,k,none⟩)) 0).run Tryz.prog w= .ok (.pointer (some ⟨b,k+0,none⟩)) w:=ba 168 0 runUnderlying171 rfl sizeOf168 (by decide)
theorem ko:∀ b k w,(Instr.fieldAt 171 (.pointer (some ⟨b,k,none⟩)) 1).run Tryz.prog w= .ok (.pointer (some ⟨b,k+1,none⟩)) w:=ba 90 1 runUnderlying171 rfl sizeOf90 (by decide)
theorem z8:∀ b k w,(Instr.fieldAt 171 (.pointer (some ⟨b,k,none⟩)) 2).run Tryz.prog w= .ok (.pointer (some ⟨b,k+2,none⟩)) w:=ba 134 2 runUnderlying171 rfl sizeOf134 (by decide)
theorem dP:∀ b k w,(Instr.fieldAt 171 (.pointer (some ⟨b,k,none⟩)) 3).run Tryz.prog w= .ok (.pointer (some ⟨b,k+5,none⟩)) w:=ba 4 5 runUnderlying171 rfl sizeOf4 (by decide)
theorem l9:∀ b k w,(Instr.fieldAt 171 (.pointer (some ⟨b,k,none⟩)) 4).run Tryz.prog w= .ok (.pointer (some ⟨b,k+6,none⟩)) w:=ba 155 6 runUnderlying171 rfl sizeOf155 (by decide)
theorem l8:∀ b k w,(Instr.fieldAt 171 (.pointer (some ⟨b,k,none⟩)) 5).run Tryz.prog w= .ok (.pointer (some ⟨b,k+8,none⟩)) w:=ba 169 8 runUnderlying171 rfl sizeOf169 (by decide)
theorem jc:∀ b k w,(Instr.fieldAt 171 (.pointer (some ⟨b,k,none⟩)) 6).run Tryz.prog w= .ok (.pointer (some ⟨b,k+9,none⟩)) w:=ba 169 9 runUnderlying171 rfl sizeOf169 (by decide)
theorem z7:∀ b k w,(Instr.fieldAt 189 (.pointer (some ⟨b,k,none⟩)) 0).run Tryz.prog w= .ok (.pointer (some ⟨b,k+0,none⟩)) w:=ba 5 0 runUnderlying189 rfl sizeOf5 (by decide)
theorem z6:∀ b k w,(Instr.fieldAt 189 (.pointer (some ⟨b,k,none⟩)) 1).run Tryz.prog w= .ok (.pointer (some ⟨b,k+1,none⟩)) w:=ba 5 1 runUnderlying189 rfl sizeOf5 (by decide)
theorem jb:∀ b k w,(Instr.fieldAt 198 (.pointer (some ⟨b,k,none⟩)) 0).run Tryz.prog w= .ok (.pointer (some ⟨b,k+0,none⟩)) w:=ba 196 0 runUnderlying198 rfl sizeOf196 (by decide)
theorem l7:∀ b k w,(Instr.fieldAt 198 (.pointer (some ⟨b,k,none⟩)) 1).run Tryz.prog w= .ok (.pointer (some ⟨b,k+1,none⟩)) w:=ba 196 1 runUnderlying198 rfl sizeOf196 (by decide)
theorem km:∀ b k w,(Instr.fieldAt 198 (.pointer (some ⟨b,k,none⟩)) 2).run Tryz.prog w= .ok (.pointer (some ⟨b,k+2,none⟩)) w:=ba 3 2 runUnderlying198 rfl sizeOf3 (by decide)
theorem cL:∀ b k w,(Instr.fieldAt 228 (.pointer (some ⟨b,k,none⟩)) 0).run Tryz.prog w= .ok (.pointer (some ⟨b,k+0,none⟩)) w:=ba 90 0 runUnderlying228 rfl sizeOf90 (by decide)
theorem kl:∀ b k w,(Instr.fieldAt 228 (.pointer (some ⟨b,k,none⟩)) 1).run Tryz.prog w= .ok (.pointer (some ⟨b,k+1,none⟩)) w:=ba 134 1 runUnderlying228 rfl sizeOf134 (by decide)
theorem ja:∀ b k w,(Instr.fieldAt 228 (.pointer (some ⟨b,k,none⟩)) 2).run Tryz.prog w= .ok (.pointer (some ⟨b,k+4,none⟩)) w:=ba 25 4 runUnderlying228 rfl sizeOf25 (by decide)
theorem da:∀ b k w,(Instr.fieldAt 228 (.pointer (some ⟨b,k,none⟩)) 3).run Tryz.prog w= .ok (.pointer (some ⟨b,k+5,none⟩)) w:=ba 3 5 runUnderlying228 rfl sizeOf3 (by decide)
theorem gJ:∀ b k w,(Instr.fieldAt 247 (.pointer (some ⟨b,k,none⟩)) 0).run Tryz.prog w= .ok (.pointer (some ⟨b,k+0,none⟩)) w:=ba 90 0 runUnderlying247 rfl sizeOf90 (by decide)
theorem uk:∀ b k w,(Instr.fieldAt 247 (.pointer (some ⟨b,k,none⟩)) 1).run Tryz.prog w= .ok (.pointer (some ⟨b,k+1,none⟩)) w:=ba 134 1 runUnderlying247 rfl sizeOf134 (by decide)
theorem l5:∀ b k w,(Instr.fieldAt 247 (.pointer (some ⟨b,k,none⟩)) 2).run Tryz.prog w= .ok (.pointer (some ⟨b,k+4,none⟩)) w:=ba 151 4 runUnderlying247 rfl sizeOf151 (by decide)
theorem po:∀ b k w,(Instr.fieldAt 247 (.pointer (some ⟨b,k,none⟩)) 3).run Tryz.prog w= .ok (.pointer (some ⟨b,k+7,none⟩)) w:=ba 3 7 runUnderlying247 rfl sizeOf3 (by decide)
theorem i8:∀ b k w,(Instr.fieldAt 247 (.pointer (some ⟨b,k,none⟩)) 4).run Tryz.prog w= .ok (.pointer (some ⟨b,k+8,none⟩)) w:=ba 3 8 runUnderlying247 rfl sizeOf3 (by decide)
theorem io:∀ b k w,(Instr.fieldAt 247 (.pointer (some ⟨b,k,none⟩)) 5).run Tryz.prog w= .ok (.pointer (some ⟨b,k+9,none⟩)) w:=ba 3 9 runUnderlying247 rfl sizeOf3 (by decide)
theorem l4:∀ b k w,(Instr.fieldAt 247 (.pointer (some ⟨b,k,none⟩)) 6).run Tryz.prog w= .ok (.pointer (some ⟨b,k+10,none⟩)) w:=ba 30 10 runUnderlying247 rfl sizeOf30 (by decide)
theorem l3:∀ b k w,(Instr.fieldAt 247 (.pointer (some ⟨b,k,none⟩)) 7).run Tryz.prog w= .ok (.pointer (some ⟨b,k+11,none⟩)) w:=ba 245 11 runUnderlying247 rfl sizeOf245 (by decide)
theorem im:∀ b k w,(Instr.fieldAt 247 (.pointer (some ⟨b,k,none⟩)) 8).run Tryz.prog w= .ok (.pointer (some ⟨b,k+12,none⟩)) w:=ba 4 12 runUnderlying247 rfl sizeOf4 (by decide)
theorem pn:∀ b k w,(Instr.fieldAt 253 (.pointer (some ⟨b,k,none⟩)) 0).run Tryz.prog w= .ok (.pointer (some ⟨b,k+0,none⟩)) w:=ba 206 0 runUnderlying253 rfl sizeOf206 (by decide)
theorem fX:∀ b k w,(Instr.fieldAt 253 (.pointer (some ⟨b,k,none⟩)) 1).run Tryz.prog w= .ok (.pointer (some ⟨b,k+1,none⟩)) w:=ba 30 1 runUnderlying253 rfl sizeOf30 (by decide)
theorem l0:∀ b k w,(Instr.fieldAt 253 (.pointer (some ⟨b,k,none⟩)) 2).run Tryz.prog w= .ok (.pointer (some ⟨b,k+2,none⟩)) w:=ba 30 2 runUnderlying253 rfl sizeOf30 (by decide)
theorem kj:∀ b k w,(Instr.fieldAt 253 (.pointer (some ⟨b,k,none⟩)) 3).run Tryz.prog w= .ok (.pointer (some ⟨b,k+3,none⟩)) w:=ba 251 3 runUnderlying253 rfl sizeOf251 (by decide)
theorem uj:∀ b k w,(Instr.fieldAt 255 (.pointer (some ⟨b,k,none⟩)) 0).run Tryz.prog w= .ok (.pointer (some ⟨b,k+0,none⟩)) w:=ba 3 0 runUnderlying255 rfl sizeOf3 (by decide)
theorem lZ:∀ b k w,(Instr.fieldAt 255 (.pointer (some ⟨b,k,none⟩)) 1).run Tryz.prog w= .ok (.pointer (some ⟨b,k+1,none⟩)) w:=ba 3 1 runUnderlying255 rfl sizeOf3 (by decide)
theorem yM:((Tryz.prog.info? 3).map fun i=>decide (i.bytes≤65536)&&decide (i.bytes≠0))=some true:=by kernel_rfl
theorem Et:((Tryz.prog.info? 5).map fun i=>decide (i.bytes≤65536)&&decide (i.bytes≠0))=some true:=by kernel_rfl
theorem hO:((Tryz.prog.info? 25).map fun i=>decide (i.bytes≤65536)&&decide (i.bytes≠0))=some true:=by kernel_rfl
theorem yL:((Tryz.prog.info? 32).map fun i=>decide (i.bytes≤65536)&&decide (i.bytes≠0))=some true:=by kernel_rfl
theorem CW:((Tryz.prog.info? 160).map fun i=>decide (i.bytes≤65536)&&decide (i.bytes≠0))=some true:=by kernel_rfl
theorem CV:((Tryz.prog.info? 209).map fun i=>decide (i.bytes≤65536)&&decide (i.bytes≠0))=some true:=by kernel_rfl
theorem sy(w:World):(Instr.build 32 #[]).run Tryz.prog w= .ok (.agg #[.int .i64 0,.slice none 0 0]) w:=by
 simp[Instr.build,Instr.fill,bB,zeroValue32,runUnderlying32,sizeOf29,sizeOf30]
theorem uI(v0:Value)(h0:aL v0=true)(w:World):(Instr.build 32 #[(0,v0)]).run Tryz.prog w= .ok (.agg #[v0,.slice none 0 0]) w:=by
 simp[Instr.build,Instr.fill,bB,zeroValue32,runUnderlying32,sizeOf29,sizeOf30,aF h0]
theorem jh(v2:Value)(h2:aL v2=true)(w:World):(Instr.build 96 #[(2,v2)]).run Tryz.prog w= .ok (.agg #[.int .u16 0,.int .u16 0,v2]) w:=by
 simp[Instr.build,Instr.fill,bB,zeroValue96,runUnderlying96,sizeOf48,aF h2]
theorem Co(w:World):(Instr.build 102 #[]).run Tryz.prog w= .ok (.agg #[.int .i64 0,.int .i64 0]) w:=by
 simp[Instr.build,Instr.fill,bB,zeroValue102,runUnderlying102,sizeOf3]
theorem q6(v0:Value)(h0:aL v0=true)(w:World):(Instr.build 102 #[(0,v0)]).run Tryz.prog w= .ok (.agg #[v0,.int .i64 0]) w:=by
 simp[Instr.build,Instr.fill,bB,zeroValue102,runUnderlying102,sizeOf3,aF h0]
theorem kB(v0:Value)(v1:Value)(h0:aL v0=true)(h1:aL v1=true)(w:World):(Instr.build 102 #[(0,v0),(1,v1)]).run Tryz.prog w= .ok (.agg #[v0,v1]) w:=by
 simp[Instr.build,Instr.fill,bB,zeroValue102,runUnderlying102,sizeOf3,aF h0,aF h1]
theorem mm(v0:Value)(v1:Value)(v2:Value)(v3:Value)(v4:Value)(h0:aL v0=true)(h1:aL v1=true)(h2:aL v2=true)(h3:aL v3=true)(h4:aL v4=true)(w:World):(Instr.build 106 #[(0,v0),(1,v1),(2,v2),(3,v3),(4,v4)]).run Tryz.prog w= .ok (.agg #[v0,v1,v2,v3,v4]) w:=by
 simp[Instr.build,Instr.fill,bB,zeroValue106,runUnderlying106,sizeOf3,sizeOf4,aF h0,aF h1,aF h2,aF h3,aF h4]
theorem sB(w:World):(Instr.build 134 #[]).run Tryz.prog w= .ok (.agg #[.int .i64 0,.int .i64 0,.int .i64 0]) w:=by
 simp[Instr.build,Instr.fill,bB,zeroValue134,runUnderlying134,sizeOf3]
theorem dl(v0:Value)(v1:Value)(v2:Value)(h0:aL v0=true)(h1:aL v1=true)(h2:aL v2=true)(w:World):(Instr.build 134 #[(0,v0),(1,v1),(2,v2)]).run Tryz.prog w= .ok (.agg #[v0,v1,v2]) w:=by
 simp[Instr.build,Instr.fill,bB,zeroValue134,runUnderlying134,sizeOf3,aF h0,aF h1,aF h2]
theorem p5(v0:Value)(v1:Value)(v2:Value)(h0:aL v0=true)(h1:aL v1=true)(h2:aL v2=true)(w:World):(Instr.build 134 #[(1,v1),(0,v0),(2,v2)]).run Tryz.prog w= .ok (.agg #[v0,v1,v2]) w:=by
 simp[Instr.build,Instr.fill,bB,zeroValue134,runUnderlying134,sizeOf3,aF h1,aF h0,aF h2]
theorem p4(v0_0 v0_1 v0_2:Value)(v1:Value)(v8:Value)(h1:aL v1=true)(h8:aL v8=true)(w:World):(Instr.build 145 #[(0,.agg #[v0_0,v0_1,v0_2]),(1,v1),(8,v8)]).run Tryz.prog w= .ok (.agg #[v0_0,v0_1,v0_2,v1,.int .i64 0,.slice none 0 0,.bool false,.slice none 0 0,.slice none 0 0,.slice none 0 0,v8,.int .i64 0]) w:=by
 simp[Instr.build,Instr.fill,bB,zeroValue145,runUnderlying145,sizeOf134,sizeOf141,sizeOf142,sizeOf143,sizeOf3,sizeOf4,aF h1,aF h8]
theorem np(v0:Value)(v1_0 v1_1 v1_2:Value)(v2:Value)(v3:Value)(h0:aL v0=true)(h2:aL v2=true)(h3:aL v3=true)(w:World):(Instr.build 149 #[(0,v0),(1,.agg #[v1_0,v1_1,v1_2]),(2,v2),(3,v3)]).run Tryz.prog w= .ok (.agg #[v0,v1_0,v1_1,v1_2,v2,v3,.pointer none]) w:=by
 simp[Instr.build,Instr.fill,bB,zeroValue149,runUnderlying149,sizeOf130,sizeOf134,sizeOf146,sizeOf147,sizeOf90,aF h0,aF h2,aF h3]
theorem Cn(w:World):(Instr.build 151 #[]).run Tryz.prog w= .ok (.agg #[.int .i64 0,.int .i64 0,.slice none 0 0]) w:=by
 simp[Instr.build,Instr.fill,bB,zeroValue151,runUnderlying151,sizeOf3,sizeOf30]
theorem ng(v0:Value)(v1:Value)(h0:aL v0=true)(h1:aL v1=true)(w:World):(Instr.build 151 #[(0,v0),(1,v1)]).run Tryz.prog w= .ok (.agg #[v0,v1,.slice none 0 0]) w:=by
 simp[Instr.build,Instr.fill,bB,zeroValue151,runUnderlying151,sizeOf3,sizeOf30,aF h0,aF h1]
theorem xg(w:World):(Instr.build 155 #[]).run Tryz.prog w= .ok (.agg #[.int .i64 0,.int .i64 0]) w:=by
 simp[Instr.build,Instr.fill,bB,zeroValue155,runUnderlying155,sizeOf3]
theorem uM(v0:Value)(v1:Value)(h0:aL v0=true)(h1:aL v1=true)(w:World):(Instr.build 155 #[(0,v0),(1,v1)]).run Tryz.prog w= .ok (.agg #[v0,v1]) w:=by
 simp[Instr.build,Instr.fill,bB,zeroValue155,runUnderlying155,sizeOf3,aF h0,aF h1]
theorem sA(w:World):(Instr.build 160 #[]).run Tryz.prog w= .ok (.agg #[.int .i64 0,.int .i64 0,.int .i64 0]) w:=by
 simp[Instr.build,Instr.fill,bB,zeroValue160,runUnderlying160,sizeOf102,sizeOf3]
theorem uL(v0_0 v0_1:Value)(v1:Value)(h1:aL v1=true)(w:World):(Instr.build 160 #[(0,.agg #[v0_0,v0_1]),(1,v1)]).run Tryz.prog w= .ok (.agg #[v0_0,v0_1,v1]) w:=by
 simp[Instr.build,Instr.fill,bB,zeroValue160,runUnderlying160,sizeOf102,sizeOf3,aF h1]
theorem yi(v1:Value)(h1:aL v1=true)(w:World):(Instr.build 160 #[(1,v1)]).run Tryz.prog w= .ok (.agg #[.int .i64 0,.int .i64 0,v1]) w:=by
 simp[Instr.build,Instr.fill,bB,zeroValue160,runUnderlying160,sizeOf102,sizeOf3,aF h1]
theorem la(v0:Value)(v1:Value)(v2_0 v2_1 v2_2:Value)(h0:aL v0=true)(h1:aL v1=true)(w:World):(Instr.build 171 #[(0,v0),(1,v1),(2,.agg #[v2_0,v2_1,v2_2])]).run Tryz.prog w= .ok (.agg #[v0,v1,v2_0,v2_1,v2_2,.bool false,.int .i64 0,.int .i64 0,.map none,.map none]) w:=by
 simp[Instr.build,Instr.fill,bB,zeroValue171,runUnderlying171,sizeOf134,sizeOf155,sizeOf168,sizeOf169,sizeOf4,sizeOf90,aF h0,aF h1]
theorem uK(v0:Value)(v1:Value)(h0:aL v0=true)(h1:aL v1=true)(w:World):(Instr.build 189 #[(0,v0),(1,v1)]).run Tryz.prog w= .ok (.agg #[v0,v1]) w:=by
 simp[Instr.build,Instr.fill,bB,zeroValue189,runUnderlying189,sizeOf5,aF h0,aF h1]
theorem hJ(v1:Value)(h1:aL v1=true)(w:World):(Instr.build 189 #[(1,v1)]).run Tryz.prog w= .ok (.agg #[.int .u8 0,v1]) w:=by
 simp[Instr.build,Instr.fill,bB,zeroValue189,runUnderlying189,sizeOf5,aF h1]
theorem uJ(v0:Value)(v1:Value)(h0:aL v0=true)(h1:aL v1=true)(w:World):(Instr.build 198 #[(0,v0),(1,v1)]).run Tryz.prog w= .ok (.agg #[v0,v1,.int .i64 0]) w:=by
 simp[Instr.build,Instr.fill,bB,zeroValue198,runUnderlying198,sizeOf196,sizeOf3,aF h0,aF h1]
theorem nN(w:World):(Instr.build 214 #[]).run Tryz.prog w= .ok (.agg #[]) w:=by
 simp[Instr.build,Instr.fill,bB,zeroValue214,runUnderlying214]
theorem p3(v0:Value)(v1_0 v1_1 v1_2:Value)(v2:Value)(h0:aL v0=true)(h2:aL v2=true)(w:World):(Instr.build 228 #[(0,v0),(1,.agg #[v1_0,v1_1,v1_2]),(2,v2)]).run Tryz.prog w= .ok (.agg #[v0,v1_0,v1_1,v1_2,v2,.int .i64 0]) w:=by
 simp[Instr.build,Instr.fill,bB,zeroValue228,runUnderlying228,sizeOf134,sizeOf25,sizeOf3,sizeOf90,aF h0,aF h2]
theorem fL(v0:Value)(v1_0 v1_1 v1_2:Value)(v2_0 v2_1 v2_2:Value)(v3:Value)(v4:Value)(v5:Value)(v6:Value)(v7:Value)(h0:aL v0=true)(h3:aL v3=true)(h4:aL v4=true)(h5:aL v5=true)(h6:aL v6=true)(h7:aL v7=true)(w:World):(Instr.build 247 #[(0,v0),(1,.agg #[v1_0,v1_1,v1_2]),(2,.agg #[v2_0,v2_1,v2_2]),(3,v3),(4,v4),(5,v5),(6,v6),(7,v7)]).run Tryz.prog w= .ok (.agg #[v0,v1_0,v1_1,v1_2,v2_0,v2_1,v2_2,v3,v4,v5,v6,v7,.bool false]) w:=by
 simp[Instr.build,Instr.fill,bB,zeroValue247,runUnderlying247,sizeOf134,sizeOf151,sizeOf245,sizeOf3,sizeOf30,sizeOf4,sizeOf90,aF h0,aF h3,aF h4,aF h5,aF h6,aF h7]
theorem nn(v0:Value)(v1:Value)(v2:Value)(v3:Value)(h0:aL v0=true)(h1:aL v1=true)(h2:aL v2=true)(h3:aL v3=true)(w:World):(Instr.build 253 #[(0,v0),(1,v1),(2,v2),(3,v3)]).run Tryz.prog w= .ok (.agg #[v0,v1,v2,v3]) w:=by
 simp[Instr.build,Instr.fill,bB,zeroValue253,runUnderlying253,sizeOf206,sizeOf251,sizeOf30,aF h0,aF h1,aF h2,aF h3]
theorem yh(v0:Value)(h0:aL v0=true)(w:World):(Instr.build 255 #[(0,v0)]).run Tryz.prog w= .ok (.agg #[v0,.int .i64 0]) w:=by
 simp[Instr.build,Instr.fill,bB,zeroValue255,runUnderlying255,sizeOf3,aF h0]
theorem Cm(w:World):(Instr.build 296 #[]).run Tryz.prog w= .ok (.agg #[]) w:=by
 simp[Instr.build,Instr.fill,bB,zeroValue296,runUnderlying296]
structure Pow where
 lim:Int
 used:Int
def Pow.out(s:Pow):Bool:=decide (0≤s.lim)&&decide (s.lim≤s.used)
def Pow.up(s:Pow):Pow:={s with used:=IntKind.i64.wrap (s.used+1)}
def jN(b:Nat)(s:Pow):HP:=row b [.int .i64 s.lim,.int .i64 s.used] 255
def dV:List PanicEntry:=[{v:= .iface 296 (.agg #[]),recovered:=false}]
abbrev ptr(b:Nat):Value:= .pointer (some ⟨b,0,none⟩)
theorem rC(B:World)(Fr:List HP)(n:Int):
 ∀ w,Holds B Fr w→Calls Tryz.prog 127 [.int .i64 n].toArray w (Ret B (fun v H'=>∃ b,v=ptr b∧H'=jN b ⟨n,0⟩::Fr) (fun _ _=>False)):=by
 refine an func127 aa ntmps127 aa (ac (ab (kPa aa aa (ad (ac (ab (kPm aa aa (kPv (aQ aa (yh _ aa)) aa (kPb (aX aa) aa fun b5=>(kPa aa aa (ad ?_)))))))))))
 refine az ?_
 exact aq results127 aa (fun w hw=>⟨_,⟨_,rfl,rfl⟩,hw⟩)
theorem A8(B:World)(Fr:List HP)(b:Nat)(s:Pow):
 ∀ w,Holds B (jN b s::Fr) w→Calls Tryz.prog 252 [ptr b].toArray w (aZ B (jN b s::Fr) (.int .i64 s.used)):=by
 rw[jN]
 refine an func252 aa ntmps252 aa (ac (ab (kPa aa aa (ad (ac (ab (kPf lZ isAgg3 aa aa aa aa (kPa aa aa (ad (az ?_))))))))))
 exact aq results252 aa (fun w hw=>⟨rfl,hw⟩)
theorem lG(B:World)(Fr:List HP)(b:Nat)(s:Pow):
 ∀ w,Holds B (jN b s::Fr) w→Calls Tryz.prog 189 [ptr b].toArray w (Ret B (fun v H'=>∃ s',(s.out=false∧v= .tuple #[]∧s.up=s')∧H'=jN b s'::Fr) (fun c H'=>∃ s',(s.out=true∧c=dV∧s=s')∧H'=jN b s'::Fr)):=by
 rw[jN]
 refine an func189 aa ntmps189 aa (ac (ac (cV Tryz.mixed (by kernel_rfl) (by kernel_rfl) ?_)))
 refine kQm aa aa (kQv (aI aa) aa (kQv (aD (m:=_) uj aa aa) aa (kQv (ah isAgg3 aa aa) aa (kQv (ao aa aa aa) aa (kQm aa aa ?_)))))
 apply mX (tp:=17) (t:=7) (σ1:=[(7,_),(0,_)]) 10 rfl ⟨rfl,rfl,trivial⟩
 ·intro hg1
  refine bj aa (ak aa) (.on aa aa (ae hg1)) aa (bj aa (aI aa) (.on aa aa (ae hg1)) aa (bj aa (aD (m:=_) lZ aa aa) (.on aa aa (ae hg1)) aa (bj aa (ah isAgg3 aa aa) (.on aa aa (ae hg1)) aa (bj aa (ak aa) (.on aa aa (ae hg1)) aa (bj aa (aI aa) (.on aa aa (ae hg1)) aa (bj aa (aD (m:=_) uj aa aa) (.on aa aa (ae hg1)) aa (bj aa (ah isAgg3 aa aa) (.on aa aa (ae hg1)) aa (bj aa (ao aa aa aa) (.on aa aa (ae hg1)) aa (kQv (ay aa hg1 aa) aa ?_)))))))))
  exact eU aa ⟨rfl,rfl,trivial⟩ (cY hg1)
 ·intro hg1
  refine aV aa (.on aa aa (ai hg1)) aa (aV aa (.on aa aa (ai hg1)) aa (aV aa (.on aa aa (ai hg1)) aa (aV aa (.on aa aa (ai hg1)) aa (aV aa (.on aa aa (ai hg1)) aa (aV aa (.on aa aa (ai hg1)) aa (aV aa (.on aa aa (ai hg1)) aa (aV aa (.on aa aa (ai hg1)) aa (aV aa (.on aa aa (ai hg1)) aa (kQv (aJ aa hg1 aa) aa ?_)))))))))
  exact eU aa ⟨rfl,rfl,trivial⟩ (cZ hg1)
 refine bY ?_
 refine a8 aa (fun h17=> ?_) (fun h17=> ?_)
 ·try simp only[decide_eq_true_eq,decide_eq_false_iff_not,Bool.not_eq_true',Bool.not_eq_false',Bool.or_eq_true,Bool.and_eq_true,Bool.and_eq_false_iff,Bool.or_eq_false_iff,beq_iff_eq,bne_iff_ne,beq_eq_false_iff_ne,bne_eq_false_iff_eq,ge_iff_le,gt_iff_lt,ne_eq] at h17
  refine ab (kPv (aQ aa (Cm)) aa (kPv (Ap runUnderlying296 aa aa) aa (zn aa .free ?_)))
  exact bi (fun w hw=>⟨_,⟨_,⟨by simp[Pow.out];omega,rfl,rfl⟩,rfl⟩,hw⟩)
 ·try simp only[decide_eq_true_eq,decide_eq_false_iff_not,Bool.not_eq_true',Bool.not_eq_false',Bool.or_eq_true,Bool.and_eq_true,Bool.and_eq_false_iff,Bool.or_eq_false_iff,beq_iff_eq,bne_iff_ne,beq_eq_false_iff_ne,bne_eq_false_iff_eq,ge_iff_le,gt_iff_lt,ne_eq] at h17
  refine ar (ab (kPf lZ isAgg3 aa aa aa aa (kPv (aN aa aa) aa (kPv (aI aa) aa (kPv (aD (m:=_) lZ aa aa) aa (kPs (aO sizeOf3 aa aa aa aa) aa (ad (am [] rfl ?_))))))))
  exact cI results189 (fun w hw=>⟨_,⟨_,⟨by simp[Pow.out];omega,rfl,rfl⟩,rfl⟩,hw⟩)
theorem Bo{B:World}{H:List HP}{b:Nat}{x:Bool}{w:World}(hw:Holds B (row b [.bool x] 4::H) w):
 CallsD Tryz.prog 254 #[ptr b] (.panicking dV) w fun e u' w'=>e= .returned (.tuple #[])∧u'= .panicking [{v:= .iface 296 (.agg #[]),recovered:=true}]∧Holds B (row b [.bool false] 4::H) w':=by
 refine callsD_of_wpS func254 aa fun c₀ cs hu=> ?_
 apply wpS_seq
 apply wpS_region
 simp[wpOpsS,go_sem,recoverD,hu,dV,ntmps254,Exit.thenS]
 refine yF (n:=15) (σ:=[(0,ptr b),(1,.iface 296 (.agg #[]))]) (K:=B8 (Holds B (row b [.bool false] 4::H))) (X:=noX) (by simp) aa (by simp[KnA]) hw ?_ ?_
 ·skip
  refine ac (ab (kPm aa aa ?_))
  first | refine al rfl (ma runUnderlying20 rfl (.inr ⟨_,_,rfl⟩)) .free rfl rfl ?_ | refine al rfl (ma runUnderlying20 rfl (.inl rfl)) .free rfl rfl ?_
  refine ad (o7 aa (rfl) (ac (ac (ab (kPm aa aa (kPv (El runUnderlying296 aa aa) aa (kPm aa aa (kPv (aA aa aa) aa (kPv (aA aa aa) aa (kPb (aC zeroValue296 aa) aa fun b2=>(kPs (ax (vs:=_) sizeOf296 aa aa aa aa aa) aa ?_)))))))))))
  refine kPa aa aa (ad (am [3,0,1] rfl (ac (ab (kPm aa aa (kPv (bz aa) aa (ad (bH aa (rfl) (ar (ab (kPs (aO sizeOf4 aa aa aa aa) aa ?_)))))))))))
  refine ad ?_
  exact wR fun _ h=>by first | exact h | exact(h.front 1 rfl).map fun _ k=>fR (fun _ k=>hZ k) k
 ·intro e a w' q
  obtain⟨rfl,q1,q2⟩:=wb q
  refine⟨q1,.panicking [{v:= .iface 296 (.agg #[]),recovered:=true}],rfl,.tuple #[],?_,rfl,rfl,q2⟩
  exact results_none results254 _ _ _
theorem zd{B:World}{H:List HP}{b:Nat}{x:Bool}{w:World}(hw:Holds B (row b [.bool x] 4::H) w):
 CallsD Tryz.prog 254 #[ptr b] .returning w fun e u' w'=>e= .returned (.tuple #[])∧u'= .returning∧Holds B (row b [.bool x] 4::H) w':=by
 refine callsD_of_wpS func254 aa fun c₀ cs hu=> ?_
 apply wpS_seq
 apply wpS_region
 simp[wpOpsS,go_sem,recoverD,hu,ntmps254,Exit.thenS]
 refine yF (n:=15) (σ:=[(0,ptr b),(1,.nilIface)]) (K:=B8 (Holds B (row b [.bool x] 4::H))) (X:=noX) (by simp) aa (by simp[KnA]) hw ?_ ?_
 ·skip
  refine ac (ab (kPm aa aa ?_))
  first | refine al rfl (ma runUnderlying20 rfl (.inr ⟨_,_,rfl⟩)) .free rfl rfl ?_ | refine al rfl (ma runUnderlying20 rfl (.inl rfl)) .free rfl rfl ?_
  refine ad (bH aa (rfl) (ar ?_))
  exact wR fun _ h=>h
 ·intro e a w' q
  obtain⟨rfl,q1,q2⟩:=wb q
  refine⟨q1,.returning,?_,.tuple #[],?_,rfl,rfl,q2⟩
  ·cases c₀;simp_all
  ·exact results_none results254 _ _ _
theorem C5{B:World}{g:FuncId}{cap:List Value}{H:List HP}{Φ Ψ:List HP→Prop}(hc:∀ args w,(callFunc g args).run Tryz.prog w= .ok (.enter g args) w)
 (h:∀ A w,Holds B (A::H) w→Calls Tryz.prog g cap.toArray w (Ret B (fun _ H'=>∃ H1,Φ H1∧∀ w,Holds B H' w→Holds B (A::H1) w) (fun c H'=>c=dV∧∃ H1,Ψ H1∧∀ w,Holds B H' w→Holds B (A::H1) w))):
 ∀ w,Holds B H w→Calls Tryz.prog 250 [.func (.func g) #[] cap.toArray].toArray w (Ret B (fun v H'=>(v= .bool true∧Φ H')∨(v= .bool false∧Ψ H')) (fun _ _=>False)):=by
 refine vz func250 aa ntmps250 aa (ac (ab (kPb (cf zeroValue4 aa) aa fun b=>(ad (ac (ab (kPv (dz aa aa) aa (Bs aa aa .free (ad (ac (ab ?_)))))))))))
 refine kPm aa aa ?_
 refine aU aa (iO hc aa aa) (by simpa using h (row b [.bool false] 4)) .free aa aa ?_ ?_
 ·rintro v H' ⟨H1,hΦ,hi⟩
  refine aM hi (ad (ac (ab (kPs (aO sizeOf4 aa aa aa aa) aa (ad (az ?_))))))
  intro a w s
  show Leaves _ _ _ _ a.defers .returning w
  rw[s.defers]
  refine leaves_cons (f:=254) (args:= #[ptr b]) (by simp) (by simp[invoke,call254]) ((zd (x:=true) s.holds).mono ?_)
  rintro e u' w' ⟨rfl,rfl,hw'⟩
  refine⟨.bool true,?_,H1,.inl ⟨rfl,hΦ⟩,hw'.tail⟩
  have h1:=s.env 2 (ptr b) rfl
  have h2:=hw'.ucell (b:=b) 0
  simp[results,results250,h1,asAddr,loadVar,isAgg4,load,Sem.run,h2]
 ·rintro c H' ⟨rfl,H1,hΨ,hi⟩
  refine aM hi ?_
  intro a w s
  show Leaves _ _ _ _ a.defers (.panicking dV) w
  rw[s.defers]
  refine leaves_cons (f:=254) (args:= #[ptr b]) (by simp) (by simp[invoke,call254]) ((Bo (x:=false) s.holds).mono ?_)
  rintro e u' w' ⟨rfl,rfl,hw'⟩
  refine⟨.bool false,?_,H1,.inr ⟨rfl,hΨ⟩,hw'.tail⟩
  have h1:=s.env 2 (ptr b) rfl
  have h2:=hw'.ucell (b:=b) 0
  simp[results,results250,h1,asAddr,loadVar,isAgg4,load,Sem.run,h2]
theorem wn{B:World}{g:FuncId}{cap:List Value}{H:List HP}(r:Bool)(F:List HP)(hc:∀ args w,(callFunc g args).run Tryz.prog w= .ok (.enter g args) w)
 (h:∀ A w,Holds B (A::H) w→Calls Tryz.prog g cap.toArray w (Ret B (fun _ H'=>r=true∧∀ w,Holds B H' w→Holds B (A::F) w) (fun c H'=>r=false∧c=dV∧∀ w,Holds B H' w→Holds B (A::F) w))):
 ∀ w,Holds B H w→Calls Tryz.prog 250 [.func (.func g) #[] cap.toArray].toArray w (Ret B (fun v H'=>v= .bool r∧H'=F) (fun _ _=>False)):=by
 intro w hw
 refine(C5 (Φ:=fun H1=>r=true∧H1=F) (Ψ:=fun H1=>r=false∧H1=F) hc (fun A w hw=>(h A w hw).mono (Ret.mono (fun v H' h=>⟨F,⟨h.1,rfl⟩,h.2⟩) (fun c H' h=>⟨h.2.1,F,⟨h.1,rfl⟩,h.2.2⟩))) w hw).mono (Ret.mono ?_ (fun _ _ h=>h))
 rintro v H' (⟨rfl,rfl,rfl⟩ | ⟨rfl,rfl,rfl⟩)<;>exact⟨rfl,rfl⟩
def tk:Nat→Pow→Bool×Nat×Pow
 | 0,s=>(true,0,s)
 | n+1,s=>if s.out=true then (false,0,s) else ((tk n s.up).1,(tk n s.up).2.1+1,(tk n s.up).2.2)
abbrev w64(x:Int):Value:= .int .u64 x
abbrev r8(ws:List Int):Value:= .agg (ws.map w64).toArray
abbrev i64(x:Int):Value:= .int .i64 x
structure Dev where
 pa:Nat
 pow:Pow
 n:Nat
 now:Nat→Int
 kept:Nat→Int
 q:Nat→Option (Nat→Int)
structure yz(n:Nat)(q:Nat→Option (Nat→Int))(l:List (Int×List Int)):Prop where
 pos:∀ p∈l,0≤p.1
 get:∀ k:Nat,bK l k=(q k).map (tab 8)
 lt:∀ k f,q k=some f→k*8+8≤n
structure A4(s:Dev)(l:List (Int×List Int)):Prop where
 line:s.n%8=0
 pos:0<s.n
 le:s.n≤1000000
 rep:yz s.n s.q l
def DW(b bn bk bq:Nat)(rest:List Value)(l:List (Int×List Int))(s:Dev):List HP:=
 [row b [.pointer (some ⟨s.pa,0,none⟩),.slice (some ⟨bn,0,none⟩) s.n s.n,.slice (some ⟨bk,0,none⟩) s.n (s.n+rest.length),.map (some bq)] 253,
  row bn (tab s.n fun i=>w64 (s.now i)) 25,row bk (tab s.n (fun i=>w64 (s.kept i))++rest) 25,bx .i64 r8 bq l,jN s.pa s.pow,pr (A4 s l)]
def aB(b:Nat)(s:Dev):HP:=hex fun (x:Nat×Nat×Nat×List Value×List (Int×List Int))=>grp (DW b x.1 x.2.1 x.2.2.1 x.2.2.2.1 x.2.2.2.2 s)
theorem qE{B:World}{b:Nat}{s:Dev}{Fr:List HP}{w:World}(h:Holds B (aB b s::Fr) w):∃ bn bk bq rest l,A4 s l∧Holds B (row b [.pointer (some ⟨s.pa,0,none⟩),.slice (some ⟨bn,0,none⟩) s.n s.n,.slice (some ⟨bk,0,none⟩) s.n (s.n+rest.length),.map (some bq)] 253::
 row bn (tab s.n fun i=>w64 (s.now i)) 25::row bk (tab s.n (fun i=>w64 (s.kept i))++rest) 25::bx .i64 r8 bq l::jN s.pa s.pow::Fr) w:=by
 obtain⟨x,hx⟩:=h.hex
 have h2:=hx.grp
 simp only[DW,List.cons_append,List.nil_append] at h2
 have h3:=(h2.front 5 rfl).pr
 exact⟨_,_,_,_,_,h3.1,h3.2⟩
theorem dm{B:World}{b:Nat}{s:Dev}{Fr:List HP}{w:World}{bn bk bq:Nat}{rest:List Value}{l:List (Int×List Int)}(hw:A4 s l)(h:Holds B (row b [.pointer (some ⟨s.pa,0,none⟩),.slice (some ⟨bn,0,none⟩) s.n s.n,.slice (some ⟨bk,0,none⟩) s.n (s.n+rest.length),.map (some bq)] 253::
 row bn (tab s.n fun i=>w64 (s.now i)) 25::row bk (tab s.n (fun i=>w64 (s.kept i))++rest) 25::bx .i64 r8 bq l::jN s.pa s.pow::Fr) w):Holds B (aB b s::Fr) w:=by
 refine Holds.unhex (bn,bk,bq,rest,l) (Holds.ungrp (l:=DW b bn bk bq rest l s) ?_)
 exact(h.unpr hw).back 5 (by simp)
theorem ki{B:World}{n:Nat}{D:List Deferred}{σ:Env}{b:Nat}{s:Dev}{Fr:List HP}{K:Act→World→Prop}(h:∀ bn bk bq rest l,A4 s l→GO B n D σ (row b [.pointer (some ⟨s.pa,0,none⟩),.slice (some ⟨bn,0,none⟩) s.n s.n,.slice (some ⟨bk,0,none⟩) s.n (s.n+rest.length),.map (some bq)] 253::
 row bn (tab s.n fun i=>w64 (s.now i)) 25::row bk (tab s.n (fun i=>w64 (s.kept i))++rest) 25::bx .i64 r8 bq l::jN s.pa s.pow::Fr) K):GO B n D σ (aB b s::Fr) K:=fun a w st=>by
 obtain⟨bn,bk,bq,rest,l,h1,h2⟩:=qE st.holds
 exact h bn bk bq rest l h1 a w ⟨st.toStA,h2⟩
theorem k9{B:World}{n:Nat}{D:List Deferred}{σ:Env}{H:List HP}{K:Act→World→Prop}(b:Nat){s:Dev}{Fr:List HP}[At H aB b s Fr](h:s.n%8=0→0<s.n→s.n≤1000000→GO B n D σ H K):GO B n D σ H K:=fun a w st=>by
 obtain⟨_,_,_,_,_,hw,_⟩:=qE (st.holds.pull aB b)
 exact h hw.line hw.pos hw.le a w st
inductive Out (α:Type) where
 | ok (a:α) (s:Dev)
 | off (s:Dev)
abbrev okV{α:Type}(enc:α→Value)(m:Out α)(v:Value)(s:Dev):Prop:=∃ a,m= .ok a s∧v=enc a
abbrev Df{α:Type}(m:Out α)(c:List PanicEntry)(s:Dev):Prop:=m= .off s∧c=dV
abbrev Cy(_:Unit):Value:= .tuple #[]
def Dev.has(s:Dev)(i:Int):Bool:=decide (0≤i)&&decide (i<s.n)
def Dev.load(s:Dev)(i:Int):Int:=if s.has i=true then s.now i.toNat else 0
def Dev.up(s:Dev):Dev:={s with pow:=s.pow.up}
def Dev.st(s:Dev)(i:Nat)(v:Int):Dev:={s with now:=upd s.now i v}
def Dev.fl(s:Dev)(i:Nat):Dev:={s with q:=upd s.q (i / 8) (some fun k=>s.now (i / 8*8+k))}
def eJ(kept:Nat→Int)(q:Nat→Option (Nat→Int))(i:Nat):Int:=match q (i / 8) with
 | some f=>f (i%8)
 | none=>kept i
def Dev.fe(s:Dev):Dev:={s with kept:=eJ s.kept s.q,q:=fun _=>none}
def Dev.store(s:Dev)(i v:Int):Out Int:=if s.has i=false then .ok 1 s else if s.pow.out=true then .off s else .ok 0 (s.up.st i.toNat v)
def Dev.flush(s:Dev)(i:Int):Out Int:=if s.has i=false then .ok 1 s else if s.pow.out=true then .off s else .ok 0 (s.up.fl i.toNat)
def Dev.fence(s:Dev):Out Unit:=if s.pow.out=true then .off s else .ok () s.up.fe
def Dev.crash(s:Dev)(c:Nat→Int):Dev:=
 let k:=fun i=>if c i%3=1 then eJ s.kept s.q i else if c i%3=2 then s.now i else s.kept i
 {s with now:=k,kept:=k,q:=fun _=>none}
theorem kJ(B:World)(Fr:List HP)(b:Nat)(s:Dev):
 ∀ w,Holds B (aB b s::Fr) w→Calls Tryz.prog 143 [ptr b].toArray w (aZ B (aB b s::Fr) (i64 s.n)):=by
 refine an func143 aa ntmps143 aa (ki fun bn bk bq rest l hw=> ?_)
 have hw1:=hw.line
 have hw2:=hw.pos
 have hw3:=hw.le
 refine ac (ab (kPa aa aa (ad (ac (ab (kPf fX isAgg30 aa aa aa aa (kPv (bD aa runUnderlying30 ⟨_,rfl⟩ rfl) aa (kPa aa aa (ad (az ?_))))))))))
 exact aq results143 aa (fun w hh=>⟨rfl,dm hw hh⟩)
theorem rF(B:World)(Fr:List HP)(b:Nat)(s:Dev)(i:Int):
 ∀ w,Holds B (aB b s::Fr) w→Calls Tryz.prog 188 [ptr b,i64 i].toArray w (aZ B (aB b s::Fr) (.bool (s.has i))):=by
 refine an func188 aa ntmps188 aa (ki fun bn bk bq rest l hw=> ?_)
 have hw1:=hw.line
 have hw2:=hw.pos
 have hw3:=hw.le
 refine ac (ab (kPa aa aa (ad (ac (ab (kPm aa aa (kPv (ao aa aa aa) aa (kPm aa aa ?_))))))))
 apply dN (tp:=15) (t:=7) (σ1:=[(7,_),(4,_)]) 8 rfl ⟨rfl,rfl,trivial⟩
 ·intro hg1
  refine al aa (ak aa) (.on aa aa (ae hg1)) aa aa (al aa (ak aa) (.on aa aa (ae hg1)) aa aa (al aa (aI aa) (.on aa aa (ae hg1)) aa aa (al aa (aD (m:=_) fX aa aa) (.on aa aa (ae hg1)) aa aa (al aa (ah isAgg30 aa aa) (.on aa aa (ae hg1)) aa aa (al aa (bD aa runUnderlying30 ⟨_,rfl⟩ rfl) (.on aa aa (ae hg1)) aa aa (al aa (ao aa aa aa) (.on aa aa (ae hg1)) aa aa (kPv (ay aa hg1 aa) aa ?_)))))))
  exact aY aa ⟨rfl,rfl,trivial⟩ (cY hg1)
 ·intro hg1
  refine ap aa (.on aa aa (ai hg1)) aa (ap aa (.on aa aa (ai hg1)) aa (ap aa (.on aa aa (ai hg1)) aa (ap aa (.on aa aa (ai hg1)) aa (ap aa (.on aa aa (ai hg1)) aa (ap aa (.on aa aa (ai hg1)) aa (ap aa (.on aa aa (ai hg1)) aa (kPv (aJ aa hg1 aa) aa ?_)))))))
  exact aY aa ⟨rfl,rfl,trivial⟩ (cZ hg1)
 refine kPa aa aa (ad (az ?_))
 exact aq results188 aa (fun w hh=>⟨rfl,dm hw hh⟩)
theorem lv(B:World)(Fr:List HP)(q:Option Addr)(n cap:Nat)(cs:List Value)(hq:q≠none)(hn:cs.length≤1000000)(hc:cs.all aL=true)(hr:SlR B Fr (.slice q n cap) cs):
 ∀ w,Holds B Fr w→Calls Tryz.prog 178 [.slice q n cap].toArray w (Ret B (fun v H'=>∃ bn rest,v= .slice (some ⟨bn,0,none⟩) n (n+rest.length)∧H'=row bn (cs++rest) 25::Fr) (fun _ _=>False)):=by
 refine an func178 aa ntmps178 aa ?_
 obtain⟨_,_,e0,_⟩:=hr.ex
 obtain rfl:n=cs.length:=by injection e0
 refine ac (ab (kPa aa aa (ad (ac (ac (ab (kPm aa aa (kPv (nG runUnderlying30 aa aa aa) aa (ad (bH aa (by cases q with | none=>exact absurd aa hq | some _=>rfl) (ar ?_)))))))))))
 refine ac (ab (kPb (r6 runUnderlying30 sizeOf25) aa fun b0=>(kPm aa aa (cJ aa (jg aa aa runUnderlying30 runUnderlying30 ⟨_,rfl⟩ sizeOf25 zeroValue25 aa hO aa aa (hr.cons _) (by simp) (by simp) (by simp;omega) hc) .free aa aa (fun v H' hY=> ?_)))))
 have hY2:∃ bn rest,v= .slice (some ⟨bn,0,none⟩) cs.length (cs.length+rest.length)∧∀ w,Holds B H' w→Holds B (row bn (cs++rest) 25::Fr) w:=by
  rcases hY with ⟨h1,rfl,rfl⟩ | ⟨h1,bn,cn,rest,h2,_,rfl,rfl⟩
  ·have:cs=[]:=by simpa using h1
   subst this
   exact⟨b0,[],rfl,fun w h=>h⟩
  ·exact⟨bn,rest,by simp[←h2],fun w h=>by simpa using(h.front 1 aa).tail⟩
 obtain⟨bn,rest,rfl,hY3⟩:=hY2
 refine aM hY3 (kPa aa aa (ad (az ?_)))
 exact aq results178 aa (fun w hw=>⟨_,⟨_,_,rfl,rfl⟩,hw⟩)
theorem cq(B:World)(Fr:List HP)(b:Nat)(s:Dev)(i:Int):
 ∀ w,Holds B (aB b s::Fr) w→Calls Tryz.prog 173 [ptr b,i64 i].toArray w (aZ B (aB b s::Fr) (w64 (s.load i))):=by
 refine an func173 aa ntmps173 aa (ac (ab (kPa aa aa (ad (ac (ac (ab (kPm aa aa (kPm aa aa (aw aa (au call188 aa) (bI (fun Fr=>rF _ Fr _ _ _)) .free aa aa ?_))))))))))
 refine kPv (bz aa) aa (ad ?_)
 refine a8 aa (fun h8=> ?_) (fun h8=> ?_)
 ·try simp only[decide_eq_true_eq,decide_eq_false_iff_not,Bool.not_eq_true',Bool.not_eq_false',Bool.or_eq_true,Bool.and_eq_true,Bool.and_eq_false_iff,Bool.or_eq_false_iff,beq_iff_eq,bne_iff_ne,beq_eq_false_iff_ne,bne_eq_false_iff_eq,ge_iff_le,gt_iff_lt,ne_eq] at h8
  refine ac (ab (kPa aa aa (ad (az ?_))))
  exact aq results173 aa (fun w hh=>by
   first
    | exact⟨by simp[Dev.load,h8],dm hw hh⟩
    | exact⟨by simp[Dev.load,h8],hh⟩)
 ·try simp only[decide_eq_true_eq,decide_eq_false_iff_not,Bool.not_eq_true',Bool.not_eq_false',Bool.or_eq_true,Bool.and_eq_true,Bool.and_eq_false_iff,Bool.or_eq_false_iff,beq_iff_eq,bne_iff_ne,beq_eq_false_iff_ne,bne_eq_false_iff_eq,ge_iff_le,gt_iff_lt,ne_eq] at h8
  refine ar (ac (ab (ki fun bn bk bq rest l hw=> ?_)))
  have hw1:=hw.line
  have hw2:=hw.pos
  have hw3:=hw.le
  have hi:0≤i∧i<s.n:=by simpa [Dev.has] using h8
  refine kPf fX isAgg30 aa aa aa aa (kPm aa aa (kPv (cg runUnderlying30 sizeOf25 aa aa hi.1 hi.2) aa (kPv (ah isAgg25 aa (by rw[Nat.zero_add];exact dT (by omega))) aa (kPa aa aa (ad (am [4] rfl (az ?_)))))))
  exact aq results173 aa (fun w hh=>by
   first
    | exact⟨by simp[Dev.load,h8],dm hw hh⟩
    | exact⟨by simp[Dev.load,h8],hh⟩)
theorem cA(B:World)(Fr:List HP)(b:Nat)(s:Dev)(i v:Int):
 ∀ w,Holds B (aB b s::Fr) w→Calls Tryz.prog 145 [ptr b,i64 i,w64 v].toArray w (Ret B (fun rv H'=>∃ s',okV (fun e=>i64 e) (s.store i v) rv s'∧H'=aB b s'::Fr) (fun c H'=>∃ s',Df (s.store i v) c s'∧H'=aB b s'::Fr)):=by
 refine an func145 aa ntmps145 aa (ac (ab (kPa aa aa (ad (ac (ac (ab (kPm aa aa (kPm aa aa (aw aa (au call188 aa) (bI (fun Fr=>rF _ Fr _ _ _)) .free aa aa ?_))))))))))
 refine kPv (bz aa) aa (ad ?_)
 refine a8 aa (fun h10=> ?_) (fun h10=> ?_)
 ·have hhas:s.has i=false:=by simpa using h10
  refine ac (ab (kPa aa aa (ad (az ?_))))
  exact aq results145 aa (fun w hh=>⟨_,⟨s,⟨1,by simp[Dev.store,hhas],rfl⟩,rfl⟩,hh⟩)
 ·have hhas:s.has i=true:=by simpa using h10
  have hi:0≤i∧i<s.n:=by simpa [Dev.has] using hhas
  refine ar (ac (ab (ki fun bn bk bq rest l hw=> ?_)))
  have hw1:=hw.line
  have hw2:=hw.pos
  have hw3:=hw.le
  refine kPf pn isAgg206 aa aa aa aa ?_
  refine aU aa (au call189 aa) (cF (fun Fr=>lG _ Fr _ _)) .free aa aa ?_ ?_
  rotate_left
  ·rintro _ _ ⟨_,⟨ho,rfl,rfl⟩,rfl⟩
   exact bi fun w hh=>⟨_,⟨s,⟨by simp[Dev.store,hhas,ho],rfl⟩,rfl⟩,dm hw hh⟩
  rintro _ _ ⟨_,⟨ho,rfl,rfl⟩,rfl⟩
  refine ad (am [6,0,1,2] rfl (ac (ab (kPf fX isAgg30 aa aa aa aa (kPm aa aa (kPm aa aa (kPv (cg runUnderlying30 sizeOf25 aa aa hi.1 hi.2) aa (kPs (aO sizeOf25 aa aa aa (by simp[Nat.blt_eq,aW];omega)) aa (ad (am [6] rfl (ac ?_)))))))))))
  refine ab (kPa aa aa (ad (az ?_)))
  exact aq results145 aa (fun w hh=>by
   refine⟨_,⟨s.up.st i.toNat v,⟨0,by simp[Dev.store,hhas,ho],rfl⟩,rfl⟩,dm (s:=s.up.st i.toNat v) (bn:=bn) (bk:=bk) (bq:=bq) (rest:=rest) (l:=l) ⟨hw.line,hw.pos,hw.le,hw.rep⟩ ?_⟩
   rw[Nat.zero_add,nu] at hh
   have e:(tab s.n fun j=>w64 ((s.up.st i.toNat v).now j))=tab s.n (upd (fun i=>w64 (s.now i)) i.toNat (w64 v)):=fD fun j _=>by
    simp only[Dev.st,upd];split<;>rfl
   rw[←e] at hh
   exact hh)
theorem C7{k:Nat}(h:k≤1000000000):IntKind.i64.wrap ((k:Int).tdiv 8)=((k / 8:Nat):Int):=by
 rw[gV (by rw[Int.tdiv_eq_ediv_of_nonneg (by omega)];omega),Int.tdiv_eq_ediv_of_nonneg (by omega)];omega
theorem Ev{k:Nat}:((k:Int).tmod 8)=((k%8:Nat):Int):=by
 rw[Int.tmod_eq_emod_of_nonneg (by omega)];omega
theorem xo{α:Type}{n a m:Nat}{f:Nat→α}(h:a+m≤n):((tab n f).drop a).take m=tab m (fun j=>f (a+j)):=by
 apply List.ext_getElem?
 intro j
 by_cases hj:j<m
 ·rw[List.getElem?_take_of_lt hj,List.getElem?_drop,dT (by omega),dT hj]
 ·rw[List.getElem?_eq_none (by rw[List.length_take,List.length_drop,aW];omega),List.getElem?_eq_none (by rw[aW];omega)]
theorem zg{n:Nat}{qq:Nat→Option (Nat→Int)}{l:List (Int×List Int)}(h:yz n qq l)(k:Nat)(f:Nat→Int)(hk:k*8+8≤n):yz n (upd qq k (some f)) (mset l k (tab 8 f)):=by
 refine⟨fun p hp=> ?_,fun j=> ?_,fun j g hg=> ?_⟩
 ·rcases lR hp with rfl | hp
  ·simp
  ·exact h.pos p hp
 ·rw[iY]
  simp only[upd]
  by_cases e:j=k
  ·subst e;simp
  ·rw[if_neg (by omega),if_neg e];exact h.get j
 ·simp only[upd] at hg
  split at hg
  ·rename_i e;subst e;exact hk
  ·exact h.lt j g hg
theorem oz(n:Nat):yz n (fun _=>none) []:=⟨by simp,fun k=>rfl,fun _ _ h=>by cases h⟩
theorem dB(B:World)(Fr:List HP)(b:Nat)(s:Dev)(i:Int):
 ∀ w,Holds B (aB b s::Fr) w→Calls Tryz.prog 151 [ptr b,i64 i].toArray w (Ret B (fun rv H'=>∃ s',okV (fun e=>i64 e) (s.flush i) rv s'∧H'=aB b s'::Fr) (fun c H'=>∃ s',Df (s.flush i) c s'∧H'=aB b s'::Fr)):=by
 refine an func151 aa ntmps151 aa (ac (ab (kPa aa aa (ad (ac (ac (ab (kPm aa aa (kPm aa aa (aw aa (au call188 aa) (bI (fun Fr=>rF _ Fr _ _ _)) .free aa aa ?_))))))))))
 refine kPv (bz aa) aa (ad ?_)
 refine a8 aa (fun h9=> ?_) (fun h9=> ?_)
 ·have hhas:s.has i=false:=by simpa using h9
  refine ac (ab (kPa aa aa (ad (az ?_))))
  exact aq results151 aa (fun w hh=>⟨_,⟨s,⟨1,by simp[Dev.flush,hhas],rfl⟩,rfl⟩,hh⟩)
 ·have hhas:s.has i=true:=by simpa using h9
  have hi:0≤i∧i<s.n:=by simpa [Dev.has] using hhas
  obtain⟨k,rfl⟩:∃ k:Nat,i=k:=⟨i.toNat,by omega⟩
  have hk:k<s.n:=by omega
  refine ar (ac (ab (ki fun bn bk bq rest l hw=> ?_)))
  have hw1:=hw.line
  have hw2:=hw.pos
  have hw3:=hw.le
  have hk8:k / 8*8+8≤s.n:=by omega
  refine kPf pn isAgg206 aa aa aa aa ?_
  refine aU aa (au call189 aa) (cF (fun Fr=>lG _ Fr _ _)) .free aa aa ?_ ?_
  rotate_left
  ·rintro _ _ ⟨_,⟨ho,rfl,rfl⟩,rfl⟩
   exact bi fun w hh=>⟨_,⟨s,⟨by simp[Dev.flush,hhas,ho],rfl⟩,rfl⟩,dm hw hh⟩
  rintro _ _ ⟨_,⟨ho,rfl,rfl⟩,rfl⟩
  refine ad (am [4,0,1] rfl (ac (ab (kPm aa aa (kPv (ku aa aa (by decide) (C7 (by omega))) aa (kPa aa aa (ad (ac (cQ 17 Tryz.mixed (by kernel_rfl) (by kernel_rfl) ?_)))))))))
  refine kQm aa aa (kQv (aI aa) aa (kQv (aD (m:=_) kj aa aa) aa (kQv (ah isAgg251 aa aa) aa (kQm aa aa (kQm aa aa (kQv (aI aa) aa (kQv (aD (m:=_) fX aa aa) aa (kQv (ah isAgg30 aa aa) aa (kQm aa aa (kQv (pu (c:=((k / 8*8:Nat):Int)) aa aa (by rw[gV (by omega)];omega)) aa (kQm aa aa ?_)))))))))))
  refine kQv (jJ (c:=((k / 8+1:Nat):Int)) aa aa (by rw[gV (by omega)];omega)) aa (kQv (pu (c:=(((k / 8+1)*8:Nat):Int)) aa aa (by rw[gV (by omega)];omega)) aa (kQv (kt (m:=k / 8*8) runUnderlying30 sizeOf25 aa (.yes aa) (.yes aa) (by omega) (by omega) (.inl (by omega)) (by omega)) aa (kQv (DC runUnderlying276 aa (by omega)) aa (kQv (ag isAgg276 sizeOf276 aa (by rw[Nat.ble_eq,aW];omega)) aa ?_))))
  refine bY (kPs (gA (u:=tab 8 fun j=>s.now (k / 8*8+j)) runUnderlying251 runUnderlying3 aa aa aa (by rw[xo hk8, ←lH (g:=w64)])) aa (ad (am [4] rfl (ac (ab (kPa aa aa (ad (az ?_))))))))
  exact aq results151 aa (fun w hh=>by
   refine⟨_,⟨s.up.fl k,⟨0,by simp[Dev.flush,hhas,ho],rfl⟩,rfl⟩,dm (s:=s.up.fl k) (bn:=bn) (bk:=bk) (bq:=bq) (rest:=rest) (l:=mset l ((k / 8:Nat):Int) (tab 8 fun j=>s.now (k / 8*8+j))) ⟨hw.line,hw.pos,hw.le,?_⟩ hh⟩
   exact zg hw.rep (k / 8) _ hk8)
theorem xJ{N:Nat}{xs:List Int}(h:xs.length≤N):cU (List.replicate N (.int .u64 0)) 0 (xs.map w64)=tab N fun i=>w64 (xs.getD i 0):=by
 apply List.ext_getElem?
 intro j
 rw[jw _ _ _ _ (by simp;omega)]
 by_cases hj:j<N
 ·rw[dT hj]
  by_cases h2:j<xs.length
  ·rw[if_pos (by simp;omega)];simp[h2,List.getD]
  ·rw[if_neg (by simp;omega)]
   simp[hj,List.getD,List.getElem?_eq_none (Nat.le_of_not_lt h2)]
 ·rw[if_neg (by simp;omega),List.getElem?_eq_none (by simp;omega),List.getElem?_eq_none (by rw[aW];omega)]
def qof(l:List (Int×List Int))(k:Nat):Option (Nat→Int):=(bK l k).map fun ws j=>ws.getD j 0
theorem tM{α:Type}{l:List (Int×α)}{p:Int×α}(h:p.1∉l.map Prod.fst)(k:Int):bK (l++[p]) k=if k=p.1 then some p.2 else bK l k:=by
 induction l with
 | nil=>
   simp only[List.nil_append,bK]
   by_cases e:p.1=k
   ·simp[e]
   ·rw[if_neg e,if_neg (Ne.symm e)]
 | cons a l ih=>
   simp only[List.map_cons,List.mem_cons,not_or] at h
   simp only[List.cons_append,bK]
   by_cases e:a.1=k
   ·rw[if_pos e,if_pos e,if_neg (by rintro rfl;exact h.1 e.symm)]
   ·rw[if_neg e,if_neg e,ih h.2]
theorem xP{α:Type}{l d:List (Int×α)}(hl:(l.map Prod.fst).Nodup)(hd:(d.map Prod.fst).Nodup)(h1:∀ p∈d,p∈l)(h2:∀ p∈l,p∈d)(k:Int):bK d k=bK l k:=by
 cases e:bK d k with
 | some a=>exact(ig hl (h1 _ (oM e))).symm
 | none=>
   cases e2:bK l k with
   | none=>rfl
   | some a=>have:=ig hd (h2 _ (oM e2));simp only at this;rw[e] at this;cases this
theorem ll{cs vs:List Value}(h:vs.length=cs.length):cU cs 0 vs=vs:=by
 apply List.ext_getElem?
 intro j
 rw[jw _ _ _ _ (by omega)]
 by_cases hj:j<vs.length
 ·rw[if_pos (by omega)];simp
 ·rw[if_neg (by omega),List.getElem?_eq_none (by omega),List.getElem?_eq_none (by omega)]
theorem sQ{n j:Nat}{f:Nat→Int}(h:j<n):(tab n f).getD j 0=f j:=by simp[List.getD,dT h]
theorem nO(l:List Int):(l.map w64).all aL=true:=by simp[aL]
theorem vA{kept:Nat→Int}{d:List (Int×List Int)}{k:Nat}{f:Nat→Int}(hn:(k:Int)∉d.map Prod.fst)(j:Nat):
 eJ kept (qof (d++[((k:Int),tab 8 f)])) j=if k*8≤j∧j<k*8+8 then f (j - k*8) else eJ kept (qof d) j:=by
 simp only[eJ,qof]
 rw[tM hn]
 by_cases e:j / 8=k
 ·subst e
  rw[if_pos rfl,if_pos (by omega)]
  simp only[Option.map_some]
  rw[sQ (by omega)]
  congr 1;omega
 ·rw[if_neg (by omega),if_neg (by omega)]
theorem ya{kept:Nat→Int}{q:Nat→Option (Nat→Int)}{l d:List (Int×List Int)}{n:Nat}(hr:yz n q l)(hl:(l.map Prod.fst).Nodup)(hd:(d.map Prod.fst).Nodup)(h1:∀ p∈d,p∈l)(h2:∀ p∈l,p∈d):eJ kept (qof d)=eJ kept q:=by
 funext j
 simp only[eJ,qof]
 rw[xP hl hd h1 h2,hr.get]
 cases q (j / 8) with
 | none=>rfl
 | some f=>simp only[Option.map_some];exact sQ (by omega)
theorem vd{n:Nat}{q:Nat→Option (Nat→Int)}{l:List (Int×List Int)}(h:yz n q l)(hl:(l.map Prod.fst).Nodup){p:Int×List Int}(hp:p∈l):∃ (k:Nat) (f:Nat→Int),p=((k:Int),tab 8 f)∧k*8+8≤n:=by
 have h0:=h.pos p hp
 have h1:=ig hl hp
 have h2:=h.get p.1.toNat
 rw[show((p.1.toNat:Nat):Int)=p.1 by omega,h1] at h2
 cases e:q p.1.toNat with
 | none=>rw[e] at h2;cases h2
 | some f=>
   rw[e] at h2
   refine⟨p.1.toNat,f,?_,h.lt _ _ e⟩
   injection h2 with h2
   cases p;simp only at h0 h2 ⊢;rw[h2,Int.toNat_of_nonneg h0]
theorem tI{d l:List Int}(hd:d.Nodup)(h:∀ x∈d,x∈l):d.length≤l.length:=by
 induction d generalizing l with
 | nil=>simp
 | cons a d ih=>
   rw[List.nodup_cons] at hd
   have ha:=h a (by simp)
   have:=ih (l:=l.erase a) hd.2 (fun x hx=>(List.mem_erase_of_ne (by rintro rfl;exact hd.1 hx)).2 (h x (by simp[hx])))
   rw[List.length_erase_of_mem ha] at this
   have:=List.length_pos_of_mem ha
   simp;omega
theorem iC{α:Type}{l d:List (Int×α)}{p:Int×α}(hd:((d++[p]).map Prod.fst).Nodup)(h:∀ x∈d++[p],x∈l):d.length<l.length:=by
 have:=tI (l:=l.map Prod.fst) hd (fun x hx=>by
  obtain⟨y,hy,rfl⟩:=List.mem_map.1 hx
  exact List.mem_map_of_mem (h y hy))
 simp at this;omega
theorem Holds.iter_w{B:World}{H:List HP}{α:Type}{kk:IntKind}{enc:α→Value}{r it:Nat}{l done:List (Int×α)}{U:List (Int×α)→List HP}{E:List HP}{w:World}(h:Holds B H w)[m:jU H it kk enc r l done U E]:(l.map Prod.fst).Nodup∧(done.map Prod.fst).Nodup∧∀ p∈done,p∈l:=by
 obtain⟨bn,c,_,_,h3,h4,h5⟩:=m.obj h
 exact⟨h3.keys,h5,h4⟩
theorem iD{B:World}{n:Nat}{D:List Deferred}{σ:Env}{H:List HP}{K:Act→World→Prop}{α:Type}{kk:IntKind}{enc:α→Value}{r:Nat}(it:Nat){l done:List (Int×α)}{U:List (Int×α)→List HP}{E:List HP}[m:jU H it kk enc r l done U E](h:(l.map Prod.fst).Nodup→(done.map Prod.fst).Nodup→(∀ p∈done,p∈l)→GO B n D σ H K):GO B n D σ H K:=fun a w st=>by
 obtain⟨h1,h2,h3⟩:=st.holds.iter_w (it:=it)
 exact h h1 h2 h3 a w st
theorem eR(B:World)(Fr:List HP)(b:Nat)(s:Dev):
 ∀ w,Holds B (aB b s::Fr) w→Calls Tryz.prog 152 [ptr b].toArray w (Ret B (fun rv H'=>∃ s',okV Cy (s.fence) rv s'∧H'=aB b s'::Fr) (fun c H'=>∃ s',Df (s.fence) c s'∧H'=aB b s'::Fr)):=by
 refine an func152 aa ntmps152 aa (ki fun bn bk bq rest l hw=> ?_)
 have hw1:=hw.line
 have hw2:=hw.pos
 have hw3:=hw.le
 refine ac (ab (kPf pn isAgg206 aa aa aa aa ?_))
 refine aU aa (au call189 aa) (cF (fun Fr=>lG _ Fr _ _)) .free aa aa ?_ ?_
 rotate_left
 ·rintro _ _ ⟨_,⟨ho,rfl,rfl⟩,rfl⟩
  exact bi fun w hh=>⟨_,⟨s,⟨by simp[Dev.fence,ho],rfl⟩,rfl⟩,dm hw hh⟩
 rintro _ _ ⟨_,⟨ho,rfl,rfl⟩,rfl⟩
 refine ad (ac (ac (ab (kPf kj isAgg251 aa aa aa aa (kPb (mi runUnderlying251 aa) aa fun it=>(ad (am [13,0] rfl (aG (du (ι:=List (Int×List Int)) (fun d=>d.length≤l.length) (fun d=>[(0,ptr b),(13,.pointer (some ⟨it,0,none⟩))]) (fun done=>row b [.pointer (some ⟨s.pa,0,none⟩),.slice (some ⟨bn,0,none⟩) s.n s.n,.slice (some ⟨bk,0,none⟩) s.n (s.n+rest.length),.map (some bq)] 253::row bn (tab s.n fun i=>w64 (s.now i)) 25::row bk (tab s.n (fun i=>w64 (eJ s.kept (qof done) i))++rest) 25::fH .i64 r8 bq it l done::jN s.pa s.pow.up::Fr) (fun d=>l.length - d.length) [] (Nat.zero_le _) (fun a w st=>st.to ⟨rfl,rfl,trivial⟩ id) ?_)))))))))
 intro done hdone
 refine ac (ab (cJ aa (nL aa) .free aa aa ?_))
 rintro _ _ ⟨bb,vs,done',rfl,hvs,rfl,hno,hyes⟩
 refine kPv (aA aa hvs) aa (ad (ac ?_))
 refine a8 aa (fun h15=> ?_) (fun h15=> ?_)
 ·obtain⟨pp,hpl,hpn,rfl⟩:=hyes h15
  refine iD it fun hl hd hsub=> ?_
  obtain⟨k,f,rfl,hk⟩:=vd hw.rep hl hpl
  refine ar (aG (ac (ab (kPv (mf (p0:=((k:Int),tab 8 f)) (dn:=done) aa) aa (kPv (aA aa aa) aa (kPv (aA aa aa) aa (kPb (aC zeroValue276 aa) aa fun b3=>(kPa aa aa (kPs (ax (vs:=(tab 8 f).map w64) sizeOf276 aa aa (by rw[List.length_map,aW]) (nO _) (by rw[List.length_map,aW];rfl)) aa (ad (cQ 8 Tryz.mixed (by kernel_rfl) (by kernel_rfl) ?_)))))))))))
  refine kQm aa aa (kQv (aI aa) aa (kQv (aD (m:=_) l0 aa aa) aa (kQv (ah isAgg30 aa aa) aa (kQm aa aa (kQv (pu (c:=((k*8:Nat):Int)) aa aa (by rw[gV (by omega)];omega)) aa (kQv (kt (m:=k*8) (h:=s.n) runUnderlying30 sizeOf25 aa (.yes aa) .no (by omega) (by omega) (.inl (by omega)) (by omega)) aa (kQv (kT (m:=0) (l:=0) (h:=8) runUnderlying276 sizeOf25 aa .no .no (by omega) (by omega) (.inr aa) (by omega)) aa (bY (cJ aa (so (n:=8) (cs:=(tab 8 f).map w64) aa runUnderlying30 sizeOf25 aa aa (SlR.row (by rw[ll (by rw[List.length_map,aW];rfl),List.drop_zero,List.take_of_length_le (by rw[List.length_map,aW];omega)]) (by rw[List.length_map,aW])) (by rw[List.length_map,aW];omega) (by rw[List.length_append,aW];omega) (nO _)) .free aa aa ?_)))))))))
  rintro _ _ ⟨rfl,rfl⟩
  refine ad (am [13,0] rfl (cu (σ':=[(0,_),(13,_)]) ⟨rfl,rfl,trivial⟩ ?_))
  exact fun a w st=>⟨done++[((k:Int),tab 8 f)],by have:=iC hd hsub;simp;omega,by have:=iC hd hsub;simp;omega,st.to ⟨rfl,rfl,trivial⟩ (fun hh=>by
   have h:=hh.tail
   rw[List.take_of_length_le (by rw[List.length_map,aW];omega),lH,u4 hk] at h
   have e:(tab s.n fun j=>if k*8≤j∧j<k*8+8 then w64 (f (j - k*8)) else w64 (eJ s.kept (qof done) j))=tab s.n fun j=>w64 (eJ s.kept (qof (done++[((k:Int),tab 8 f)])) j):=fD fun j _=>by
    rw[vA hpn];split<;>rfl
   rw[e] at h
   exact h)⟩
 ·obtain⟨rfl,hall⟩:=hno h15
  refine iD it fun hl hd hsub=> ?_
  rw[ya hw.rep hl hd hsub hall]
  refine aM (fun w hh=>hh.iter_end it) (bF (ab (kPf kj isAgg251 aa aa aa aa (kPs (mj aa runUnderlying251 aa) aa (ad (am [] rfl ?_))))))
  exact cI results152 (fun w hh=>by
   refine⟨_,⟨s.up.fe,⟨(),by simp[Dev.fence,ho],rfl⟩,rfl⟩,dm (s:=s.up.fe) (bn:=bn) (bk:=bk) (bq:=bq) (rest:=rest) (l:=[]) ⟨hw.line,hw.pos,hw.le,oz _⟩ hh⟩)
theorem xH(B:World)(Fr:List HP)(b:Nat)(s:Dev):
 ∀ w,Holds B (aB b s::Fr) w→Calls Tryz.prog 128 [ptr b].toArray w (Ret B (fun rv H'=>∃ bw rest,rv= .slice (some ⟨bw,0,none⟩) s.n (s.n+rest.length)∧H'=row bw (tab s.n (fun i=>w64 (s.now i))++rest) 25::aB b s::Fr) (fun _ _=>False)):=by
 refine an func128 aa ntmps128 aa (ki fun bn bk bq rest l hw=> ?_)
 have hw1:=hw.line
 have hw2:=hw.pos
 have hw3:=hw.le
 refine ac (ab (kPa aa aa (ad (ac (ab (kPf fX isAgg30 aa aa aa aa ?_))))))
 refine aH aa (au call178 aa) (lv _ _ _ _ _ (tab s.n fun i=>w64 (s.now i)) (by simp) (by rw[aW];omega) (by simp[tab,aL]) (SlR.row (by first | (rw[List.drop_zero,List.take_of_length_le (by rw[aW];omega)]) | (rw[List.drop_zero,List.take_append_of_le_length (by rw[aW];omega),List.take_of_length_le (by rw[aW];omega)])) (by rw[aW]))) .free aa aa ?_
 rintro _ _ ⟨bw,rest',rfl,rfl⟩
 refine kPa aa aa (ad (az ?_))
 exact aq results128 aa (fun w hh=>⟨_,⟨bw,rest',rfl,rfl⟩,(dm (Fr:=row bw _ _::Fr) hw (hh.back 5 (by simp))).front 1 aa⟩)
theorem wx(B:World)(Fr:List HP)(pa:Nat)(pw:Pow)(sv:Value)(xs:List Int)(hx0:0<xs.length)(hx1:xs.length≤100000)(hr:SlR B Fr sv (xs.map w64)):
 ∀ w,Holds B (jN pa pw::Fr) w→Calls Tryz.prog 126 [ptr pa,sv].toArray w (Ret B (fun rv H'=>∃ b,rv=ptr b∧H'=aB b ⟨pa,pw,(xs.length+7) / 8*8,fun i=>xs.getD i 0,fun i=>xs.getD i 0,fun _=>none⟩::Fr) (fun _ _=>False)):=by
 refine an func126 aa ntmps126 aa ?_
 obtain⟨qa,qc,rfl,hqc⟩:=hr.ex
 rw[List.length_map] at hqc ⊢
 generalize hN:(xs.length+7) / 8*8=N
 rw[List.length_map] at hr
 refine ac (ab (kPa aa aa (ad (ac (ab (kPm aa aa (kPv (bD aa runUnderlying30 ⟨_,rfl⟩ rfl) aa (kPv (jJ (c:=((xs.length+8:Nat):Int)) aa aa (by rw[gV (by omega)];omega)) aa (kPv (pq (c:=((xs.length+7:Nat):Int)) aa aa (by rw[gV (by omega)];omega)) aa (kPv (ku aa aa (by decide) (C7 (by omega))) aa (kPv (pu (c:=(N:Int)) aa aa (by rw[gV (by omega)];omega)) aa ?_)))))))))))
 refine kPa aa aa (ad (ac (ab (kPm aa aa (kPb (nM runUnderlying30 hO sizeOf25 zeroValue25 aa aa aa (by omega)) aa fun bn=>(kPa aa aa (ad (am [6,4,0,1] rfl (ac (ab (kPm aa aa ?_)))))))))))
 refine kPm aa aa (cJ aa (so (n:=xs.length) (cs:=xs.map w64) aa runUnderlying30 sizeOf25 aa aa ((hr.cons _).cons _) (by rw[List.length_map];omega) (by simp;omega) (nO _)) .free aa aa ?_)
 rintro _ _ ⟨rfl,rfl⟩
 rw[List.take_of_length_le (by simp),xJ (by omega)]
 refine ad (ac (ab (kPm aa aa (kPm aa aa (kPm aa aa (aH aa (au call178 aa) (lv _ _ _ _ _ (tab N fun i=>w64 (xs.getD i 0)) (by simp) (by rw[aW];omega) (by simp[tab,aL]) (SlR.row (by rw[List.drop_zero,List.take_of_length_le (by rw[aW];omega)]) (by rw[aW]))) .free aa aa ?_))))))
 rintro _ _ ⟨bk,rest',rfl,rfl⟩
 refine kPb (dX .i64 r8) aa fun bq=> ?_
 refine al aa (aQ aa (nn _ _ _ _ (by first | rfl | assumption) (by first | rfl | assumption) (by first | rfl | assumption) (by first | rfl | assumption))) .free rfl rfl ?_;refine kPb (aX aa) aa fun b24=> ?_;refine kPa aa aa ?_;refine ad ?_;refine am [4] rfl ?_;refine az ?_
 exact aq results126 aa (fun w hh=>⟨_,⟨_,rfl,rfl⟩,dm (s:=⟨pa,pw,N,fun i=>xs.getD i 0,fun i=>xs.getD i 0,fun _=>none⟩) (rest:=rest') (l:=[]) ⟨by simp only;omega,by simp only;omega,by simp only;omega,oz _⟩ ((((hh.front 1 aa).front 2 aa).front 3 aa).front 3 aa)⟩)
def cgo(s:Dev)(c:Nat→Int)(i:Nat)(j:Nat):Value:=w64 (if j<i then (s.crash c).kept j else s.kept j)
theorem gL{s:Dev}{c:Nat→Int}{i:Nat}(h:(s.crash c).kept i=s.kept i):cgo s c (i+1)=cgo s c i:=by
 funext j
 simp only[cgo]
 by_cases e:j=i
 ·subst e;simp[h]
 ·by_cases e2:j<i
  ·rw[if_pos e2,if_pos (by omega)]
  ·rw[if_neg e2,if_neg (by omega)]
theorem iI{s:Dev}{c:Nat→Int}{i n:Nat}{rest:List Value}{x:Int}(hi:i<n)(h:(s.crash c).kept i=x):(tab n (cgo s c i)++rest).set (0+(i:Int).toNat) (w64 x)=tab n (cgo s c (i+1))++rest:=by
 rw[Nat.zero_add,Int.toNat_natCast,List.set_append_left _ _ (by rw[aW];exact hi),nu]
 congr 1
 refine fD fun j _=> ?_
 simp only[upd,cgo]
 by_cases e:j=i
 ·subst e;simp[h]
 ·rw[if_neg e]
  by_cases e2:j<i
  ·rw[if_pos e2,if_pos (by omega)]
  ·rw[if_neg e2,if_neg (by omega)]
theorem AN(s:Dev)(c:Nat→Int):cgo s c 0=fun j=>w64 (s.kept j):=by funext j;simp[cgo]
theorem Cg(s:Dev)(c:Nat→Int):tab s.n (cgo s c s.n)=tab s.n fun j=>w64 ((s.crash c).kept j):=fD fun j hj=>by simp[cgo,hj]
theorem Dk{s:Dev}{l:List (Int×List Int)}(hw:A4 s l)(k:Nat):(Value.tuple #[pS r8 (.agg #[.int .u64 0,.int .u64 0,.int .u64 0,.int .u64 0,.int .u64 0,.int .u64 0,.int .u64 0,.int .u64 0]) (bK l (k:Int)),.bool (bK l (k:Int)).isSome])= .tuple #[r8 (tab 8 ((s.q k).getD fun _=>0)),.bool (s.q k).isSome]:=by
 rw[hw.rep.get]
 cases s.q k<;>rfl
structure Cv(B:World)(Fr:List HP)(g:FuncId)(cap:List Value)(n:Nat)(c:Nat→Int):Prop where
 enter:∀ args w,(callFunc g args).run Tryz.prog w= .ok (.enter g args) w
 pos:∀ i,0≤c i
 says:∀ (H:List HP) [gE H Fr] (i:Nat),i<n→∀ w,Holds B H w→Calls Tryz.prog g ([]++[i64 i]++cap).toArray w (aZ B H (.int .u8 (c i)))
theorem xK(B:World)(Fr:List HP)(b:Nat)(s:Dev)(g:FuncId)(cap:List Value)(c:Nat→Int)(hg:Cv B Fr g cap s.n c):
 ∀ w,Holds B (aB b s::Fr) w→Calls Tryz.prog 248 [ptr b,.func (.func g) [].toArray cap.toArray].toArray w (Ret B (fun _ H'=>H'=aB b (s.crash c)::Fr) (fun _ _=>False)):=by
 refine an func248 aa ntmps248 aa (ki fun bn bk bq rest l hw=> ?_)
 have hw1:=hw.line
 have hw2:=hw.pos
 have hw3:=hw.le
 refine ac (ac (ab (kPf fX isAgg30 aa aa aa aa (kPv (bD aa runUnderlying30 ⟨_,rfl⟩ rfl) aa (kPm aa aa (ad (aG ?_)))))))
 rw[←AN s c]
 refine du (ι:=Nat) (fun i=>i≤s.n) (fun i=>[(0,ptr b),(1,.func (.func g) [].toArray cap.toArray),(11,i64 s.n),(12,i64 i)]) (fun i=>row b [.pointer (some ⟨s.pa,0,none⟩),.slice (some ⟨bn,0,none⟩) s.n s.n,.slice (some ⟨bk,0,none⟩) s.n (s.n+rest.length),.map (some bq)] 253::row bn (tab s.n fun i=>w64 (s.now i)) 25::row bk (tab s.n (cgo s c (i))++rest) 25::bx .i64 r8 bq l::jN s.pa s.pow::Fr) (fun i=>s.n - i) 0 (Nat.zero_le _) (fun a w st=>st.to ⟨rfl,rfl,rfl,rfl,trivial⟩ id) ?_
 intro i hi
 refine ac (ab (kPv (ao aa aa aa) aa (ad (ac ?_))))
 refine a8 aa (fun h13=> ?_) (fun h13=> ?_)
 ·have hin:i<s.n:=by simpa using h13
  refine ar (ac (aG (ac (ab (kPm aa aa (kPa aa aa (ad (ac (ab (kPf kj isAgg251 aa aa aa aa (kPm aa aa ?_)))))))))))
  refine kPv (ku aa aa (by decide) (C7 (by omega))) aa (kPv ((fB runUnderlying251 runUnderlying3 zeroValue276 aa aa).eq (Dk hw (i / 8))) aa (kPm aa aa (kPv (aA aa aa) aa (kPv (aA aa aa) aa (kPb (aC zeroValue276 aa) aa fun b5=>(kPs (ax (vs:=(tab 8 ((s.q (i / 8)).getD fun _=>0)).map w64) sizeOf276 aa aa (by rw[List.length_map,aW]) (nO _) (by rw[List.length_map,aW];rfl)) aa (kPa aa aa (ad (am [6,5,4,12,11,0,1] rfl (ac (ab ?_)))))))))))
  refine kPm aa aa (kPm aa aa ?_)
  refine aw aa (iO hg.enter aa aa) (hg.says _ i hin) .free aa aa ?_
  refine kPv (fA (c:=c i%3) aa aa (by decide) (Int.tmod_eq_emod_of_nonneg (hg.pos i))) aa (ad (aG (ac (ab (kPv (ao aa aa aa) aa (kPa aa aa (ad ?_)))))))
  refine a8 aa (fun h29=> ?_) (fun h29=> ?_)
  ·try simp only[decide_eq_true_eq,decide_eq_false_iff_not,Bool.not_eq_true',Bool.not_eq_false',Bool.or_eq_true,Bool.and_eq_true,Bool.and_eq_false_iff,Bool.or_eq_false_iff,beq_iff_eq,bne_iff_ne,beq_eq_false_iff_ne,bne_eq_false_iff_eq,ge_iff_le,gt_iff_lt,ne_eq] at h29
   refine ac (ab (kPm aa aa (ad (am [31,5,4,12,11,0,1] rfl ?_))))
   refine a8 aa (fun h31=> ?_) (fun h31=> ?_)
   ·try simp only[decide_eq_true_eq,decide_eq_false_iff_not,Bool.not_eq_true',Bool.not_eq_false',Bool.or_eq_true,Bool.and_eq_true,Bool.and_eq_false_iff,Bool.or_eq_false_iff,beq_iff_eq,bne_iff_ne,beq_eq_false_iff_ne,bne_eq_false_iff_eq,ge_iff_le,gt_iff_lt,ne_eq] at h31
    refine cQ 10 Tryz.mixed (by kernel_rfl) (by kernel_rfl) ?_
    refine kQm aa aa (kQv (aI aa) aa (kQv (aD (m:=_) l0 aa aa) aa (kQv (ah isAgg30 aa aa) aa (kQm aa aa (kQm aa aa (kQv (fA aa aa (by decide) Ev) aa (kQv (mF (m:=i%8) runUnderlying276 sizeOf25 aa aa (by omega) (by omega) (by omega)) aa (kQv (ah (v:=w64 (((s.q (i / 8)).getD fun _=>0) (i%8))) isAgg25 aa (by rw[ll (by rw[List.length_map,aW];rfl),lH,dT (by omega)])) aa (kQv (cg runUnderlying30 sizeOf25 aa aa (by omega) (by omega)) aa (bY (kPs (aO sizeOf25 aa aa aa (by rw[Nat.blt_eq,List.length_append,aW];omega)) aa ?_)))))))))))
    refine ad (am [12,11,0,1] rfl (ab (kPv (aN aa aa) aa (kPm aa aa (ad ?_)))))
    first
     | exact fun a w st=>⟨i+1,by omega,by omega,st.to ⟨rfl,rfl,rfl,rfl,trivial⟩ (fun hh=>by
      have h:=hh.tail
      rw[iI hin (by(try simp only[beq_iff_eq] at h29);simp only[Dev.crash];rw[if_pos h29];unfold eJ;cases hq:s.q (i / 8) with | none=>simp[hq] at h31 | some f=>rfl)] at h
      exact h)⟩
     | exact fun a w st=>⟨i+1,by omega,by omega,st.to ⟨rfl,rfl,rfl,rfl,trivial⟩ (fun hh=>by
      have h:=hh.tail
      rw[iI hin (by(try simp only[beq_eq_false_iff_ne,beq_iff_eq] at h29 h42);simp only[Dev.crash];rw[if_neg h29,if_pos h42])] at h
      exact h)⟩
     | exact fun a w st=>⟨i+1,by omega,by omega,st.to ⟨rfl,rfl,rfl,rfl,trivial⟩ (fun hh=>by
      have h:=hh.tail
      rw[←gL (by(try simp only[beq_iff_eq] at h29);simp only[Dev.crash];rw[if_pos h29];unfold eJ;cases hq:s.q (i / 8) with | some f=>simp[hq] at h31 | none=>rfl)] at h
      exact h)⟩
     | exact fun a w st=>⟨i+1,by omega,by omega,st.to ⟨rfl,rfl,rfl,rfl,trivial⟩ (fun hh=>by
      have h:=hh.tail
      rw[←gL (by(try simp only[beq_eq_false_iff_ne] at h29 h42);simp only[Dev.crash];rw[if_neg h29,if_neg h42])] at h
      exact h)⟩
   ·try simp only[decide_eq_true_eq,decide_eq_false_iff_not,Bool.not_eq_true',Bool.not_eq_false',Bool.or_eq_true,Bool.and_eq_true,Bool.and_eq_false_iff,Bool.or_eq_false_iff,beq_iff_eq,bne_iff_ne,beq_eq_false_iff_ne,bne_eq_false_iff_eq,ge_iff_le,gt_iff_lt,ne_eq] at h31
    refine ar (ab (kPv (aN aa aa) aa (kPm aa aa (ad ?_))))
    first
     | exact fun a w st=>⟨i+1,by omega,by omega,st.to ⟨rfl,rfl,rfl,rfl,trivial⟩ (fun hh=>by
      have h:=hh.tail
      rw[iI hin (by(try simp only[beq_iff_eq] at h29);simp only[Dev.crash];rw[if_pos h29];unfold eJ;cases hq:s.q (i / 8) with | none=>simp[hq] at h31 | some f=>rfl)] at h
      exact h)⟩
     | exact fun a w st=>⟨i+1,by omega,by omega,st.to ⟨rfl,rfl,rfl,rfl,trivial⟩ (fun hh=>by
      have h:=hh.tail
      rw[iI hin (by(try simp only[beq_eq_false_iff_ne,beq_iff_eq] at h29 h42);simp only[Dev.crash];rw[if_neg h29,if_pos h42])] at h
      exact h)⟩
     | exact fun a w st=>⟨i+1,by omega,by omega,st.to ⟨rfl,rfl,rfl,rfl,trivial⟩ (fun hh=>by
      have h:=hh.tail
      rw[←gL (by(try simp only[beq_iff_eq] at h29);simp only[Dev.crash];rw[if_pos h29];unfold eJ;cases hq:s.q (i / 8) with | some f=>simp[hq] at h31 | none=>rfl)] at h
      exact h)⟩
     | exact fun a w st=>⟨i+1,by omega,by omega,st.to ⟨rfl,rfl,rfl,rfl,trivial⟩ (fun hh=>by
      have h:=hh.tail
      rw[←gL (by(try simp only[beq_eq_false_iff_ne] at h29 h42);simp only[Dev.crash];rw[if_neg h29,if_neg h42])] at h
      exact h)⟩
  ·try simp only[decide_eq_true_eq,decide_eq_false_iff_not,Bool.not_eq_true',Bool.not_eq_false',Bool.or_eq_true,Bool.and_eq_true,Bool.and_eq_false_iff,Bool.or_eq_false_iff,beq_iff_eq,bne_iff_ne,beq_eq_false_iff_ne,bne_eq_false_iff_eq,ge_iff_le,gt_iff_lt,ne_eq] at h29
   refine ac (ab (kPv (ao aa aa aa) aa (kPa aa aa (ad (am [42,4,12,11,0,1] rfl ?_)))))
   refine a8 aa (fun h42=> ?_) (fun h42=> ?_)
   ·try simp only[decide_eq_true_eq,decide_eq_false_iff_not,Bool.not_eq_true',Bool.not_eq_false',Bool.or_eq_true,Bool.and_eq_true,Bool.and_eq_false_iff,Bool.or_eq_false_iff,beq_iff_eq,bne_iff_ne,beq_eq_false_iff_ne,bne_eq_false_iff_eq,ge_iff_le,gt_iff_lt,ne_eq] at h42
    refine cQ 13 Tryz.mixed (by kernel_rfl) (by kernel_rfl) ?_
    refine kQm aa aa (kQv (aI aa) aa (kQv (aD (m:=_) l0 aa aa) aa (kQv (ah isAgg30 aa aa) aa (kQm aa aa (kQm aa aa (kQv (aI aa) aa (kQv (aD (m:=_) fX aa aa) aa (kQv (ah isAgg30 aa aa) aa (kQm aa aa (kQv (cg runUnderlying30 sizeOf25 aa aa (by omega) (by omega)) aa (kQv (ah (v:=w64 (s.now i)) isAgg25 aa (by rw[Nat.zero_add];exact dT (by omega))) aa ?_)))))))))))
    refine kQv (cg runUnderlying30 sizeOf25 aa aa (by omega) (by omega)) aa (bY (kPs (aO sizeOf25 aa aa aa (by rw[Nat.blt_eq,List.length_append,aW];omega)) aa (ad (am [12,11,0,1] rfl (ab (kPv (aN aa aa) aa (kPm aa aa (ad ?_))))))))
    first
     | exact fun a w st=>⟨i+1,by omega,by omega,st.to ⟨rfl,rfl,rfl,rfl,trivial⟩ (fun hh=>by
      have h:=hh.tail
      rw[iI hin (by(try simp only[beq_iff_eq] at h29);simp only[Dev.crash];rw[if_pos h29];unfold eJ;cases hq:s.q (i / 8) with | none=>simp[hq] at h31 | some f=>rfl)] at h
      exact h)⟩
     | exact fun a w st=>⟨i+1,by omega,by omega,st.to ⟨rfl,rfl,rfl,rfl,trivial⟩ (fun hh=>by
      have h:=hh.tail
      rw[iI hin (by(try simp only[beq_eq_false_iff_ne,beq_iff_eq] at h29 h42);simp only[Dev.crash];rw[if_neg h29,if_pos h42])] at h
      exact h)⟩
     | exact fun a w st=>⟨i+1,by omega,by omega,st.to ⟨rfl,rfl,rfl,rfl,trivial⟩ (fun hh=>by
      have h:=hh.tail
      rw[←gL (by(try simp only[beq_iff_eq] at h29);simp only[Dev.crash];rw[if_pos h29];unfold eJ;cases hq:s.q (i / 8) with | some f=>simp[hq] at h31 | none=>rfl)] at h
      exact h)⟩
     | exact fun a w st=>⟨i+1,by omega,by omega,st.to ⟨rfl,rfl,rfl,rfl,trivial⟩ (fun hh=>by
      have h:=hh.tail
      rw[←gL (by(try simp only[beq_eq_false_iff_ne] at h29 h42);simp only[Dev.crash];rw[if_neg h29,if_neg h42])] at h
      exact h)⟩
   ·try simp only[decide_eq_true_eq,decide_eq_false_iff_not,Bool.not_eq_true',Bool.not_eq_false',Bool.or_eq_true,Bool.and_eq_true,Bool.and_eq_false_iff,Bool.or_eq_false_iff,beq_iff_eq,bne_iff_ne,beq_eq_false_iff_ne,bne_eq_false_iff_eq,ge_iff_le,gt_iff_lt,ne_eq] at h42
    refine ar (ab (kPv (aN aa aa) aa (kPm aa aa (ad ?_))))
    first
     | exact fun a w st=>⟨i+1,by omega,by omega,st.to ⟨rfl,rfl,rfl,rfl,trivial⟩ (fun hh=>by
      have h:=hh.tail
      rw[iI hin (by(try simp only[beq_iff_eq] at h29);simp only[Dev.crash];rw[if_pos h29];unfold eJ;cases hq:s.q (i / 8) with | none=>simp[hq] at h31 | some f=>rfl)] at h
      exact h)⟩
     | exact fun a w st=>⟨i+1,by omega,by omega,st.to ⟨rfl,rfl,rfl,rfl,trivial⟩ (fun hh=>by
      have h:=hh.tail
      rw[iI hin (by(try simp only[beq_eq_false_iff_ne,beq_iff_eq] at h29 h42);simp only[Dev.crash];rw[if_neg h29,if_pos h42])] at h
      exact h)⟩
     | exact fun a w st=>⟨i+1,by omega,by omega,st.to ⟨rfl,rfl,rfl,rfl,trivial⟩ (fun hh=>by
      have h:=hh.tail
      rw[←gL (by(try simp only[beq_iff_eq] at h29);simp only[Dev.crash];rw[if_pos h29];unfold eJ;cases hq:s.q (i / 8) with | some f=>simp[hq] at h31 | none=>rfl)] at h
      exact h)⟩
     | exact fun a w st=>⟨i+1,by omega,by omega,st.to ⟨rfl,rfl,rfl,rfl,trivial⟩ (fun hh=>by
      have h:=hh.tail
      rw[←gL (by(try simp only[beq_eq_false_iff_ne] at h29 h42);simp only[Dev.crash];rw[if_neg h29,if_neg h42])] at h
      exact h)⟩
 ·have hin:¬ i<s.n:=by simpa using h13
  obtain rfl:i=s.n:=by omega
  refine bF (ac (ab (kPf kj isAgg251 aa aa aa aa (kPs (mj aa runUnderlying251 aa) aa (ad (am [0] rfl (cQ 8 Tryz.mixed (by kernel_rfl) (by kernel_rfl) ?_)))))))
  refine kQm aa aa (kQv (aI aa) aa (kQv (aD (m:=_) fX aa aa) aa (kQv (ah isAgg30 aa aa) aa (kQm aa aa (kQv (aI aa) aa (kQv (aD (m:=_) l0 aa aa) aa (kQv (ah isAgg30 aa aa) aa (bY (cJ aa (so (n:=s.n) (cs:=tab s.n (cgo s c s.n)) aa runUnderlying30 sizeOf25 aa aa (SlR.row (by rw[List.drop_zero,List.take_append_of_le_length (by rw[aW];omega),List.take_of_length_le (by rw[aW];omega)]) (by rw[aW])) (by rw[aW];omega) (by rw[aW];omega) (by simp[tab,aL,cgo])) .free aa aa ?_)))))))))
  rintro _ _ ⟨rfl,rfl⟩
  refine ad (am [] rfl ?_)
  exact cI results248 (fun w hh=>by
   rw[List.take_of_length_le (by rw[aW];omega),ll (by rw[aW,aW]),Cg] at hh
   exact⟨_,rfl,dm (s:=s.crash c) (bn:=bn) (bk:=bk) (bq:=bq) (rest:=rest) (l:=[]) ⟨hw.line,hw.pos,hw.le,oz _⟩ hh⟩)
structure Cfg where
 log:Int
 roots:Int
 space:Int
structure bA(c:Cfg):Prop where
 r1:1≤c.roots
 r2:c.roots≤16
 l1:c.roots+2≤c.log
 l2:c.log≤200
 s1:8≤c.space
 s2:c.space≤4096
def ii(n:Int):Int:=(n+7) / 8*8
def Cfg.record(_:Cfg)(i:Int):Int:=16+4*i
def Cfg.active(c:Cfg):Int:=ii (c.record c.log)
def Cfg.root(c:Cfg)(i:Int):Int:=c.active+2+i
def Cfg.frm(c:Cfg)(s:Int):Int:=ii (c.root c.roots)+s*ii c.space
def Cfg.words(c:Cfg):Int:=c.frm 2
abbrev dY(c:Cfg):Value:= .agg #[i64 c.log,i64 c.roots,i64 c.space]
theorem C6{n:Int}(h:0≤n)(h2:n≤1000000000):IntKind.i64.wrap (n.tdiv 8)=n / 8:=by
 rw[Int.tdiv_eq_ediv_of_nonneg h,gV (by omega)]
theorem fV{n:Int}(h:0≤n):n≤ii n∧ii n≤n+7∧ii n%8=0:=by unfold ii;omega
theorem bA.act{c:Cfg}(h:bA c):16+4*c.log≤c.active∧c.active≤16+4*c.log+7∧c.active%8=0:=by
 have:=h.r1;have:=h.l1
 exact fV (n:=16+4*c.log) (by omega)
theorem oT(B:World)(H:List HP)(n:Int)(h:0≤n)(h2:n≤100000000):
 ∀ w,Holds B H w→Calls Tryz.prog 174 [i64 n].toArray w (aZ B H (i64 (ii n))):=by
 refine an func174 aa ntmps174 aa (ac (ab (kPa aa aa (ad (ac (ab (kPm aa aa (kPv (aN aa aa) aa (kPv (pq (c:=n+7) aa aa (by rw[gV (by omega)];omega)) aa (kPv (ku aa aa (by decide) (C6 (by omega) (by omega))) aa (kPv (nF aa aa) aa ?_)))))))))))
 refine kPa aa aa (ad (az ?_))
 exact aq results174 aa (fun w hw=>⟨rfl,hw⟩)
theorem gt(B:World)(H:List HP)(c:Cfg)(i:Int)(h:0≤i)(h2:i≤100000):
 ∀ w,Holds B H w→Calls Tryz.prog 176 [dY c,i64 i].toArray w (aZ B H (i64 (c.record i))):=by
 refine an func176 aa ntmps176 aa (ac (ab (kPb (aX aa) aa fun b2=>(kPa aa aa (ad (ac (ab (kPm aa aa (kPv (nF aa aa) aa (kPv (aN aa aa) aa (kPa aa aa ?_)))))))))))
 refine ad (az ?_)
 exact aq results176 aa (fun w hw=>⟨rfl,hw.tail⟩)
theorem fN(B:World)(H:List HP)(c:Cfg)(hc:bA c):
 ∀ w,Holds B H w→Calls Tryz.prog 142 [dY c].toArray w (aZ B H (i64 c.active)):=by
 refine an func142 aa ntmps142 aa ?_
 have hc1:=hc.r1
 have hc2:=hc.r2
 have hc3:=hc.l1
 have hc4:=hc.l2
 have hc5:=hc.s1
 have hc6:=hc.s2
 refine ac (ab (kPb (aX aa) aa fun b1=>(kPa aa aa (ad (ac (ab (kPv (ag isAgg134 sizeOf134 aa aa) aa ?_)))))))
 refine kPl iu isAgg3 aa aa aa aa (aw aa (au call176 aa) (gt _ _ c _ (by omega) (by omega)) .free aa aa ?_)
 refine aw aa (au call174 aa) (oT _ _ _ (by simp only[Cfg.record];omega) (by simp only[Cfg.record];omega)) .free aa aa ?_
 refine kPa aa aa (ad (am [2] rfl (az ?_)))
 exact aq results142 aa (fun w hw=>⟨rfl,hw.tail⟩)
theorem lN(B:World)(H:List HP)(c:Cfg)(hc:bA c)(i:Int)(h:0≤i)(h2:i≤100000):
 ∀ w,Holds B H w→Calls Tryz.prog 171 [dY c,i64 i].toArray w (aZ B H (i64 (c.root i))):=by
 refine an func171 aa ntmps171 aa ?_
 have hc1:=hc.r1
 have hc2:=hc.r2
 have hc3:=hc.l1
 have hc4:=hc.l2
 have hc5:=hc.s1
 have hc6:=hc.s2
 have ha:=hc.act
 refine ac (ab (kPb (aX aa) aa fun b2=>(kPa aa aa (ad (ac (ab (kPv (ag isAgg134 sizeOf134 aa aa) aa ?_)))))))
 refine aw aa (au call142 aa) (fN _ _ c hc) .free aa aa ?_
 refine kPv (aN aa aa) aa (kPm aa aa (kPv (aN aa aa) aa (kPa aa aa (ad (am [4] rfl (az ?_))))))
 exact aq results171 aa (fun w hw=>⟨rfl,hw.tail⟩)
theorem jG(B:World)(H:List HP)(c:Cfg)(hc:bA c)(i:Int)(h:0≤i)(h2:i≤2):
 ∀ w,Holds B H w→Calls Tryz.prog 119 [dY c,i64 i].toArray w (aZ B H (i64 (c.frm i))):=by
 refine an func119 aa ntmps119 aa ?_
 have hc1:=hc.r1
 have hc2:=hc.r2
 have hc3:=hc.l1
 have hc4:=hc.l2
 have hc5:=hc.s1
 have hc6:=hc.s2
 have ha:=hc.act
 have hr:0≤c.root c.roots∧c.root c.roots≤2000:=by simp only[Cfg.root];omega
 have hl:=fV hr.1
 have hs:=fV (n:=c.space) (by omega)
 have hm:0≤i*ii c.space∧i*ii c.space≤2*5000:=⟨Int.mul_nonneg h (by omega),Int.mul_le_mul h2 (by omega) (by omega) (by omega)⟩
 refine ac (ab (kPb (aX aa) aa fun b2=>(kPa aa aa (ad (ac (cV Tryz.mixed (by kernel_rfl) (by kernel_rfl) ?_))))))
 refine kQv (ag isAgg134 sizeOf134 aa aa) aa ?_
 refine kQv (aD (m:=_) fY aa aa) aa (kQv (ah isAgg3 aa aa) aa (bG aa (au call171 aa) (lN _ _ c hc _ (by omega) (by omega)) .free aa ?_))
 refine bG aa (au call174 aa) (oT _ _ _ hr.1 (by have:=hr.2;omega)) .free aa ?_
 refine kQm aa aa (kQv (aD (m:=_) fj aa aa) aa (kQv (ah isAgg3 aa aa) aa (bG aa (au call174 aa) (oT _ _ _ (by omega) (by omega)) .free aa ?_)))
 refine kQv (nF aa aa) aa (kQv (aN aa aa) aa (kQa aa aa (bY (am [4] rfl (az ?_)))))
 exact aq results119 aa (fun w hw=>⟨rfl,hw.tail⟩)
theorem jf(B:World)(H:List HP)(c:Cfg)(hc:bA c):
 ∀ w,Holds B H w→Calls Tryz.prog 120 [dY c].toArray w (aZ B H (i64 c.words)):=by
 refine an func120 aa ntmps120 aa (ac (ab (kPb (aX aa) aa fun b1=>(kPa aa aa (ad (ac (ab (kPv (ag isAgg134 sizeOf134 aa aa) aa ?_))))))))
 refine aw aa (au call119 aa) (jG _ _ c hc _ (by omega) (by omega)) .free aa aa ?_
 refine kPa aa aa (ad (az ?_))
 exact aq results120 aa (fun w hw=>⟨rfl,hw.tail⟩)
theorem uw(B:World)(H:List HP)(c:Cfg)(hc:bA c):
 ∀ w,Holds B H w→Calls Tryz.prog 140 [dY c].toArray w (aZ B H (i64 (c.active+1))):=by
 refine an func140 aa ntmps140 aa ?_
 have hc1:=hc.r1
 have hc2:=hc.r2
 have hc3:=hc.l1
 have hc4:=hc.l2
 have hc5:=hc.s1
 have hc6:=hc.s2
 have ha:=hc.act
 refine ac (ab (kPb (aX aa) aa fun b1=>(kPa aa aa (ad (ac (ab (kPv (ag isAgg134 sizeOf134 aa aa) aa ?_)))))))
 refine aw aa (au call142 aa) (fN _ _ c hc) .free aa aa ?_
 refine kPv (aN aa aa) aa (kPa aa aa (ad (az ?_)))
 exact aq results140 aa (fun w hw=>⟨rfl,hw.tail⟩)
instance (c:Cfg):Decidable (bA c):=decidable_of_iff (1≤c.roots∧c.roots≤16∧c.roots+2≤c.log∧c.log≤200∧8≤c.space∧c.space≤4096) ⟨fun ⟨a,b,c,d,e,f⟩=>⟨a,b,c,d,e,f⟩,fun ⟨a,b,c,d,e,f⟩=>⟨a,b,c,d,e,f⟩⟩
end Go.Proofs.YtoakdoeajpjgkaaGreatDoor
