/- Part of a law's texts. Conditions: none. -/
import Derived.Test.YtoakdoeajpjgkaaGreatDoorQL18Md
import Derived.Test.YtoakdoeajpjgkaaGreatDoorRows
open Go.Proofs.Tryz
set_option linter.all false
namespace Go.Proofs.YtoakdoeajpjgkaaGreatDoor
open Go
theorem bg{P:Program}{S f sz:Nat}{fs:Array Field}(t off:Nat)(hS:∀ w,(underlying S).run P w= .ok (.struct fs) w)(hf:(fs[f]?).map (fun fd=>(fd.type,fd.offset))=some (t,off))(hz:∀ w,(sizeOf t).run P w= .ok sz w)(h0:sz≠0)(b k:Nat)(w:World):
 (Instr.fieldAt S (.pointer (some ⟨b,k,none⟩)) f).run P w= .ok (.pointer (some ⟨b,k+off,none⟩)) w:=by
 have ha:(⟨b,k,none⟩:Addr).add off=⟨b,k+off,none⟩:=by
  unfold Addr.add;split
  ·rename_i e;rw[e];rfl
  ·rfl
 cases e:fs[f]? with
 | none=>rw[e] at hf;cases hf
 | some fd=>
   rw[e] at hf
   simp only[Option.map_some,Option.some.injEq,Prod.mk.injEq] at hf
   obtain⟨h1,h2⟩:=hf
   subst h1;subst h2
   simp[Instr.fieldAt,hS,e,Instr.sureAddr,fieldPlace,hz,h0,ha]
theorem Tryz.mixed:Tryz.prog.follows .mixedOrders=true:=by kernel_rfl
theorem mR:∀ b k w,(Instr.fieldAt 32 (.pointer (some ⟨b,k,none⟩)) 0).run Tryz.prog w= .ok (.pointer (some ⟨b,k+0,none⟩)) w:=bg 29 0 runUnderlying32 rfl sizeOf29 (by decide)
theorem mQ:∀ b k w,(Instr.fieldAt 32 (.pointer (some ⟨b,k,none⟩)) 1).run Tryz.prog w= .ok (.pointer (some ⟨b,k+1,none⟩)) w:=bg 30 1 runUnderlying32 rfl sizeOf30 (by decide)
theorem vK:∀ b k w,(Instr.fieldAt 61 (.pointer (some ⟨b,k,none⟩)) 0).run Tryz.prog w= .ok (.pointer (some ⟨b,k+0,none⟩)) w:=bg 9 0 runUnderlying61 rfl sizeOf9 (by decide)
theorem AK:∀ b k w,(Instr.fieldAt 61 (.pointer (some ⟨b,k,none⟩)) 1).run Tryz.prog w= .ok (.pointer (some ⟨b,k+1,none⟩)) w:=bg 3 1 runUnderlying61 rfl sizeOf3 (by decide)
theorem AJ:∀ b k w,(Instr.fieldAt 96 (.pointer (some ⟨b,k,none⟩)) 0).run Tryz.prog w= .ok (.pointer (some ⟨b,k+0,none⟩)) w:=bg 48 0 runUnderlying96 rfl sizeOf48 (by decide)
theorem AI:∀ b k w,(Instr.fieldAt 96 (.pointer (some ⟨b,k,none⟩)) 1).run Tryz.prog w= .ok (.pointer (some ⟨b,k+1,none⟩)) w:=bg 48 1 runUnderlying96 rfl sizeOf48 (by decide)
theorem AH:∀ b k w,(Instr.fieldAt 96 (.pointer (some ⟨b,k,none⟩)) 2).run Tryz.prog w= .ok (.pointer (some ⟨b,k+2,none⟩)) w:=bg 48 2 runUnderlying96 rfl sizeOf48 (by decide)
theorem ia:∀ b k w,(Instr.fieldAt 102 (.pointer (some ⟨b,k,none⟩)) 0).run Tryz.prog w= .ok (.pointer (some ⟨b,k+0,none⟩)) w:=bg 3 0 runUnderlying102 rfl sizeOf3 (by decide)
theorem fO:∀ b k w,(Instr.fieldAt 102 (.pointer (some ⟨b,k,none⟩)) 1).run Tryz.prog w= .ok (.pointer (some ⟨b,k+1,none⟩)) w:=bg 3 1 runUnderlying102 rfl sizeOf3 (by decide)
theorem y8:∀ b k w,(Instr.fieldAt 106 (.pointer (some ⟨b,k,none⟩)) 0).run Tryz.prog w= .ok (.pointer (some ⟨b,k+0,none⟩)) w:=bg 3 0 runUnderlying106 rfl sizeOf3 (by decide)
theorem y7:∀ b k w,(Instr.fieldAt 106 (.pointer (some ⟨b,k,none⟩)) 1).run Tryz.prog w= .ok (.pointer (some ⟨b,k+1,none⟩)) w:=bg 3 1 runUnderlying106 rfl sizeOf3 (by decide)
theorem y6:∀ b k w,(Instr.fieldAt 106 (.pointer (some ⟨b,k,none⟩)) 2).run Tryz.prog w= .ok (.pointer (some ⟨b,k+2,none⟩)) w:=bg 3 2 runUnderlying106 rfl sizeOf3 (by decide)
theorem y5:∀ b k w,(Instr.fieldAt 106 (.pointer (some ⟨b,k,none⟩)) 3).run Tryz.prog w= .ok (.pointer (some ⟨b,k+3,none⟩)) w:=bg 3 3 runUnderlying106 rfl sizeOf3 (by decide)
theorem y3:∀ b k w,(Instr.fieldAt 106 (.pointer (some ⟨b,k,none⟩)) 4).run Tryz.prog w= .ok (.pointer (some ⟨b,k+4,none⟩)) w:=bg 4 4 runUnderlying106 rfl sizeOf4 (by decide)
theorem hZ:∀ b k w,(Instr.fieldAt 134 (.pointer (some ⟨b,k,none⟩)) 0).run Tryz.prog w= .ok (.pointer (some ⟨b,k+0,none⟩)) w:=bg 3 0 runUnderlying134 rfl sizeOf3 (by decide)
theorem fN:∀ b k w,(Instr.fieldAt 134 (.pointer (some ⟨b,k,none⟩)) 1).run Tryz.prog w= .ok (.pointer (some ⟨b,k+1,none⟩)) w:=bg 3 1 runUnderlying134 rfl sizeOf3 (by decide)
theorem eQ:∀ b k w,(Instr.fieldAt 134 (.pointer (some ⟨b,k,none⟩)) 2).run Tryz.prog w= .ok (.pointer (some ⟨b,k+2,none⟩)) w:=bg 3 2 runUnderlying134 rfl sizeOf3 (by decide)
theorem y2:∀ b k w,(Instr.fieldAt 145 (.pointer (some ⟨b,k,none⟩)) 1).run Tryz.prog w= .ok (.pointer (some ⟨b,k+3,none⟩)) w:=bg 141 3 runUnderlying145 rfl sizeOf141 (by decide)
theorem yZ:∀ b k w,(Instr.fieldAt 145 (.pointer (some ⟨b,k,none⟩)) 2).run Tryz.prog w= .ok (.pointer (some ⟨b,k+4,none⟩)) w:=bg 3 4 runUnderlying145 rfl sizeOf3 (by decide)
theorem sQ:∀ b k w,(Instr.fieldAt 145 (.pointer (some ⟨b,k,none⟩)) 3).run Tryz.prog w= .ok (.pointer (some ⟨b,k+5,none⟩)) w:=bg 141 5 runUnderlying145 rfl sizeOf141 (by decide)
theorem yY:∀ b k w,(Instr.fieldAt 145 (.pointer (some ⟨b,k,none⟩)) 4).run Tryz.prog w= .ok (.pointer (some ⟨b,k+6,none⟩)) w:=bg 4 6 runUnderlying145 rfl sizeOf4 (by decide)
theorem yX:∀ b k w,(Instr.fieldAt 145 (.pointer (some ⟨b,k,none⟩)) 5).run Tryz.prog w= .ok (.pointer (some ⟨b,k+7,none⟩)) w:=bg 142 7 runUnderlying145 rfl sizeOf142 (by decide)
theorem hO:∀ b k w,(Instr.fieldAt 149 (.pointer (some ⟨b,k,none⟩)) 0).run Tryz.prog w= .ok (.pointer (some ⟨b,k+0,none⟩)) w:=bg 90 0 runUnderlying149 rfl sizeOf90 (by decide)
theorem dS:∀ b k w,(Instr.fieldAt 149 (.pointer (some ⟨b,k,none⟩)) 1).run Tryz.prog w= .ok (.pointer (some ⟨b,k+1,none⟩)) w:=bg 134 1 runUnderlying149 rfl sizeOf134 (by decide)
theorem dH:∀ b k w,(Instr.fieldAt 149 (.pointer (some ⟨b,k,none⟩)) 2).run Tryz.prog w= .ok (.pointer (some ⟨b,k+4,none⟩)) w:=bg 146 4 runUnderlying149 rfl sizeOf146 (by decide)
theorem iO:∀ b k w,(Instr.fieldAt 149 (.pointer (some ⟨b,k,none⟩)) 3).run Tryz.prog w= .ok (.pointer (some ⟨b,k+5,none⟩)) w:=bg 130 5 runUnderlying149 rfl sizeOf130 (by decide)
theorem j3:∀ b k w,(Instr.fieldAt 149 (.pointer (some ⟨b,k,none⟩)) 4).run Tryz.prog w= .ok (.pointer (some ⟨b,k+6,none⟩)) w:=bg 147 6 runUnderlying149 rfl sizeOf147 (by decide)
theorem hJ:∀ b k w,(Instr.fieldAt 151 (.pointer (some ⟨b,k,none⟩)) 0).run Tryz.prog w= .ok (.pointer (some ⟨b,k+0,none⟩)) w:=bg 3 0 runUnderlying151 rfl sizeOf3 (by decide)
theorem dz:∀ b k w,(Instr.fieldAt 151 (.pointer (some ⟨b,k,none⟩)) 1).run Tryz.prog w= .ok (.pointer (some ⟨b,k+1,none⟩)) w:=bg 3 1 runUnderlying151 rfl sizeOf3 (by decide)
theorem eP:∀ b k w,(Instr.fieldAt 151 (.pointer (some ⟨b,k,none⟩)) 2).run Tryz.prog w= .ok (.pointer (some ⟨b,k+2,none⟩)) w:=bg 30 2 runUnderlying151 rfl sizeOf30 (by decide)
theorem yW:∀ b k w,(Instr.fieldAt 155 (.pointer (some ⟨b,k,none⟩)) 0).run Tryz.prog w= .ok (.pointer (some ⟨b,k+0,none⟩)) w:=bg 3 0 runUnderlying155 rfl sizeOf3 (by decide)
theorem yV:∀ b k w,(Instr.fieldAt 155 (.pointer (some ⟨b,k,none⟩)) 1).run Tryz.prog w= .ok (.pointer (some ⟨b,k+1,none⟩)) w:=bg 3 1 runUnderlying155 rfl sizeOf3 (by decide)
theorem eO:∀ b k w,(Instr.fieldAt 160 (.pointer (some ⟨b,k,none⟩)) 0).run Tryz.prog w= .ok (.pointer (some ⟨b,k+0,none⟩)) w:=bg 102 0 runUnderlying160 rfl sizeOf102 (by decide)
theorem j2:∀ b k w,(Instr.fieldAt 160 (.pointer (some ⟨b,k,none⟩)) 1).run Tryz.prog w= .ok (.pointer (some ⟨b,k+2,none⟩)) w:=bg 3 2 runUnderlying160 rfl sizeOf3 (by decide)
theorem hG:∀ b k w,(Instr.fieldAt 171 (.pointer (some ⟨b,k,none⟩)) 0).run Tryz.prog w= .ok (.pointer (some ⟨b,k+0,none⟩)) w:=bg 168 0 runUnderlying171 rfl sizeOf168 (by decide)
theorem j1:∀ b k w,(Instr.fieldAt 171 (.pointer (some ⟨b,k,none⟩)) 1).run Tryz.prog w= .ok (.pointer (some ⟨b,k+1,none⟩)) w:=bg 90 1 runUnderlying171 rfl sizeOf90 (by decide)
theorem yU:∀ b k w,(Instr.fieldAt 171 (.pointer (some ⟨b,k,none⟩)) 2).run Tryz.prog w= .ok (.pointer (some ⟨b,k+2,none⟩)) w:=bg 134 2 runUnderlying171 rfl sizeOf134 (by decide)
theorem dG:∀ b k w,(Instr.fieldAt 171 (.pointer (some ⟨b,k,none⟩)) 3).run Tryz.prog w= .ok (.pointer (some ⟨b,k+5,none⟩)) w:=bg 4 5 runUnderlying171 rfl sizeOf4 (by decide)
theorem lB:∀ b k w,(Instr.fieldAt 171 (.pointer (some ⟨b,k,none⟩)) 4).run Tryz.prog w= .ok (.pointer (some ⟨b,k+6,none⟩)) w:=bg 155 6 runUnderlying171 rfl sizeOf155 (by decide)
theorem lA:∀ b k w,(Instr.fieldAt 171 (.pointer (some ⟨b,k,none⟩)) 5).run Tryz.prog w= .ok (.pointer (some ⟨b,k+8,none⟩)) w:=bg 169 8 runUnderlying171 rfl sizeOf169 (by decide)
theorem iN:∀ b k w,(Instr.fieldAt 171 (.pointer (some ⟨b,k,none⟩)) 6).run Tryz.prog w= .ok (.pointer (some ⟨b,k+9,none⟩)) w:=bg 169 9 runUnderlying171 rfl sizeOf169 (by decide)
theorem yT:∀ b k w,(Instr.fieldAt 189 (.pointer (some ⟨b,k,none⟩)) 0).run Tryz.prog w= .ok (.pointer (some ⟨b,k+0,none⟩)) w:=bg 5 0 runUnderlying189 rfl sizeOf5 (by decide)
theorem yS:∀ b k w,(Instr.fieldAt 189 (.pointer (some ⟨b,k,none⟩)) 1).run Tryz.prog w= .ok (.pointer (some ⟨b,k+1,none⟩)) w:=bg 5 1 runUnderlying189 rfl sizeOf5 (by decide)
theorem iM:∀ b k w,(Instr.fieldAt 198 (.pointer (some ⟨b,k,none⟩)) 0).run Tryz.prog w= .ok (.pointer (some ⟨b,k+0,none⟩)) w:=bg 196 0 runUnderlying198 rfl sizeOf196 (by decide)
theorem lz:∀ b k w,(Instr.fieldAt 198 (.pointer (some ⟨b,k,none⟩)) 1).run Tryz.prog w= .ok (.pointer (some ⟨b,k+1,none⟩)) w:=bg 196 1 runUnderlying198 rfl sizeOf196 (by decide)
theorem j0:∀ b k w,(Instr.fieldAt 198 (.pointer (some ⟨b,k,none⟩)) 2).run Tryz.prog w= .ok (.pointer (some ⟨b,k+2,none⟩)) w:=bg 3 2 runUnderlying198 rfl sizeOf3 (by decide)
theorem cD:∀ b k w,(Instr.fieldAt 228 (.pointer (some ⟨b,k,none⟩)) 0).run Tryz.prog w= .ok (.pointer (some ⟨b,k+0,none⟩)) w:=bg 90 0 runUnderlying228 rfl sizeOf90 (by decide)
theorem jZ:∀ b k w,(Instr.fieldAt 228 (.pointer (some ⟨b,k,none⟩)) 1).run Tryz.prog w= .ok (.pointer (some ⟨b,k+1,none⟩)) w:=bg 134 1 runUnderlying228 rfl sizeOf134 (by decide)
theorem iL:∀ b k w,(Instr.fieldAt 228 (.pointer (some ⟨b,k,none⟩)) 2).run Tryz.prog w= .ok (.pointer (some ⟨b,k+4,none⟩)) w:=bg 25 4 runUnderlying228 rfl sizeOf25 (by decide)
theorem cW:∀ b k w,(Instr.fieldAt 228 (.pointer (some ⟨b,k,none⟩)) 3).run Tryz.prog w= .ok (.pointer (some ⟨b,k+5,none⟩)) w:=bg 3 5 runUnderlying228 rfl sizeOf3 (by decide)
theorem gx:∀ b k w,(Instr.fieldAt 247 (.pointer (some ⟨b,k,none⟩)) 0).run Tryz.prog w= .ok (.pointer (some ⟨b,k+0,none⟩)) w:=bg 90 0 runUnderlying247 rfl sizeOf90 (by decide)
theorem sP:∀ b k w,(Instr.fieldAt 247 (.pointer (some ⟨b,k,none⟩)) 1).run Tryz.prog w= .ok (.pointer (some ⟨b,k+1,none⟩)) w:=bg 134 1 runUnderlying247 rfl sizeOf134 (by decide)
theorem ly:∀ b k w,(Instr.fieldAt 247 (.pointer (some ⟨b,k,none⟩)) 2).run Tryz.prog w= .ok (.pointer (some ⟨b,k+4,none⟩)) w:=bg 151 4 runUnderlying247 rfl sizeOf151 (by decide)
theorem oy:∀ b k w,(Instr.fieldAt 247 (.pointer (some ⟨b,k,none⟩)) 3).run Tryz.prog w= .ok (.pointer (some ⟨b,k+7,none⟩)) w:=bg 3 7 runUnderlying247 rfl sizeOf3 (by decide)
theorem iK:∀ b k w,(Instr.fieldAt 247 (.pointer (some ⟨b,k,none⟩)) 4).run Tryz.prog w= .ok (.pointer (some ⟨b,k+8,none⟩)) w:=bg 3 8 runUnderlying247 rfl sizeOf3 (by decide)
theorem gZ:∀ b k w,(Instr.fieldAt 247 (.pointer (some ⟨b,k,none⟩)) 5).run Tryz.prog w= .ok (.pointer (some ⟨b,k+9,none⟩)) w:=bg 3 9 runUnderlying247 rfl sizeOf3 (by decide)
theorem lx:∀ b k w,(Instr.fieldAt 247 (.pointer (some ⟨b,k,none⟩)) 6).run Tryz.prog w= .ok (.pointer (some ⟨b,k+10,none⟩)) w:=bg 30 10 runUnderlying247 rfl sizeOf30 (by decide)
theorem lv:∀ b k w,(Instr.fieldAt 247 (.pointer (some ⟨b,k,none⟩)) 7).run Tryz.prog w= .ok (.pointer (some ⟨b,k+11,none⟩)) w:=bg 245 11 runUnderlying247 rfl sizeOf245 (by decide)
theorem gY:∀ b k w,(Instr.fieldAt 247 (.pointer (some ⟨b,k,none⟩)) 8).run Tryz.prog w= .ok (.pointer (some ⟨b,k+12,none⟩)) w:=bg 4 12 runUnderlying247 rfl sizeOf4 (by decide)
theorem ox:∀ b k w,(Instr.fieldAt 253 (.pointer (some ⟨b,k,none⟩)) 0).run Tryz.prog w= .ok (.pointer (some ⟨b,k+0,none⟩)) w:=bg 206 0 runUnderlying253 rfl sizeOf206 (by decide)
theorem fM:∀ b k w,(Instr.fieldAt 253 (.pointer (some ⟨b,k,none⟩)) 1).run Tryz.prog w= .ok (.pointer (some ⟨b,k+1,none⟩)) w:=bg 30 1 runUnderlying253 rfl sizeOf30 (by decide)
theorem lu:∀ b k w,(Instr.fieldAt 253 (.pointer (some ⟨b,k,none⟩)) 2).run Tryz.prog w= .ok (.pointer (some ⟨b,k+2,none⟩)) w:=bg 30 2 runUnderlying253 rfl sizeOf30 (by decide)
theorem jY:∀ b k w,(Instr.fieldAt 253 (.pointer (some ⟨b,k,none⟩)) 3).run Tryz.prog w= .ok (.pointer (some ⟨b,k+3,none⟩)) w:=bg 251 3 runUnderlying253 rfl sizeOf251 (by decide)
theorem sO:∀ b k w,(Instr.fieldAt 255 (.pointer (some ⟨b,k,none⟩)) 0).run Tryz.prog w= .ok (.pointer (some ⟨b,k+0,none⟩)) w:=bg 3 0 runUnderlying255 rfl sizeOf3 (by decide)
theorem ls:∀ b k w,(Instr.fieldAt 255 (.pointer (some ⟨b,k,none⟩)) 1).run Tryz.prog w= .ok (.pointer (some ⟨b,k+1,none⟩)) w:=bg 3 1 runUnderlying255 rfl sizeOf3 (by decide)
theorem xE:((Tryz.prog.info? 3).map fun i=>decide (i.bytes≤65536)&&decide (i.bytes≠0))=some true:=by kernel_rfl
theorem ik:((Tryz.prog.info? 25).map fun i=>decide (i.bytes≤65536)&&decide (i.bytes≠0))=some true:=by kernel_rfl
theorem Cs:((Tryz.prog.info? 32).map fun i=>decide (i.bytes≤65536)&&decide (i.bytes≠0))=some true:=by kernel_rfl
theorem Bp:((Tryz.prog.info? 160).map fun i=>decide (i.bytes≤65536)&&decide (i.bytes≠0))=some true:=by kernel_rfl
theorem Bo:((Tryz.prog.info? 209).map fun i=>decide (i.bytes≤65536)&&decide (i.bytes≠0))=some true:=by kernel_rfl
theorem q8(w:World):(Instr.build 32 #[]).run Tryz.prog w= .ok (.agg #[.int .i64 0,.slice none 0 0]) w:=by
 simp[Instr.build,Instr.fill,bx,zeroValue32,runUnderlying32,sizeOf29,sizeOf30]
theorem tk(v0:Value)(h0:aL v0=true)(w:World):(Instr.build 32 #[(0,v0)]).run Tryz.prog w= .ok (.agg #[v0,.slice none 0 0]) w:=by
 simp[Instr.build,Instr.fill,bx,zeroValue32,runUnderlying32,sizeOf29,sizeOf30,aH h0]
theorem iS(v2:Value)(h2:aL v2=true)(w:World):(Instr.build 96 #[(2,v2)]).run Tryz.prog w= .ok (.agg #[.int .u16 0,.int .u16 0,v2]) w:=by
 simp[Instr.build,Instr.fill,bx,zeroValue96,runUnderlying96,sizeOf48,aH h2]
theorem AV(w:World):(Instr.build 102 #[]).run Tryz.prog w= .ok (.agg #[.int .i64 0,.int .i64 0]) w:=by
 simp[Instr.build,Instr.fill,bx,zeroValue102,runUnderlying102,sizeOf3]
theorem p8(v0:Value)(h0:aL v0=true)(w:World):(Instr.build 102 #[(0,v0)]).run Tryz.prog w= .ok (.agg #[v0,.int .i64 0]) w:=by
 simp[Instr.build,Instr.fill,bx,zeroValue102,runUnderlying102,sizeOf3,aH h0]
theorem ka(v0:Value)(v1:Value)(h0:aL v0=true)(h1:aL v1=true)(w:World):(Instr.build 102 #[(0,v0),(1,v1)]).run Tryz.prog w= .ok (.agg #[v0,v1]) w:=by
 simp[Instr.build,Instr.fill,bx,zeroValue102,runUnderlying102,sizeOf3,aH h0,aH h1]
theorem lJ(v0:Value)(v1:Value)(v2:Value)(v3:Value)(v4:Value)(h0:aL v0=true)(h1:aL v1=true)(h2:aL v2=true)(h3:aL v3=true)(h4:aL v4=true)(w:World):(Instr.build 106 #[(0,v0),(1,v1),(2,v2),(3,v3),(4,v4)]).run Tryz.prog w= .ok (.agg #[v0,v1,v2,v3,v4]) w:=by
 simp[Instr.build,Instr.fill,bx,zeroValue106,runUnderlying106,sizeOf3,sizeOf4,aH h0,aH h1,aH h2,aH h3,aH h4]
theorem ra(w:World):(Instr.build 134 #[]).run Tryz.prog w= .ok (.agg #[.int .i64 0,.int .i64 0,.int .i64 0]) w:=by
 simp[Instr.build,Instr.fill,bx,zeroValue134,runUnderlying134,sizeOf3]
theorem da(v0:Value)(v1:Value)(v2:Value)(h0:aL v0=true)(h1:aL v1=true)(h2:aL v2=true)(w:World):(Instr.build 134 #[(0,v0),(1,v1),(2,v2)]).run Tryz.prog w= .ok (.agg #[v0,v1,v2]) w:=by
 simp[Instr.build,Instr.fill,bx,zeroValue134,runUnderlying134,sizeOf3,aH h0,aH h1,aH h2]
theorem ph(v0:Value)(v1:Value)(v2:Value)(h0:aL v0=true)(h1:aL v1=true)(h2:aL v2=true)(w:World):(Instr.build 134 #[(1,v1),(0,v0),(2,v2)]).run Tryz.prog w= .ok (.agg #[v0,v1,v2]) w:=by
 simp[Instr.build,Instr.fill,bx,zeroValue134,runUnderlying134,sizeOf3,aH h1,aH h0,aH h2]
theorem pg(v0_0 v0_1 v0_2:Value)(v1:Value)(v8:Value)(h1:aL v1=true)(h8:aL v8=true)(w:World):(Instr.build 145 #[(0,.agg #[v0_0,v0_1,v0_2]),(1,v1),(8,v8)]).run Tryz.prog w= .ok (.agg #[v0_0,v0_1,v0_2,v1,.int .i64 0,.slice none 0 0,.bool false,.slice none 0 0,.slice none 0 0,.slice none 0 0,v8,.int .i64 0]) w:=by
 simp[Instr.build,Instr.fill,bx,zeroValue145,runUnderlying145,sizeOf134,sizeOf141,sizeOf142,sizeOf143,sizeOf3,sizeOf4,aH h1,aH h8]
theorem mF(v0:Value)(v1_0 v1_1 v1_2:Value)(v2:Value)(v3:Value)(h0:aL v0=true)(h2:aL v2=true)(h3:aL v3=true)(w:World):(Instr.build 149 #[(0,v0),(1,.agg #[v1_0,v1_1,v1_2]),(2,v2),(3,v3)]).run Tryz.prog w= .ok (.agg #[v0,v1_0,v1_1,v1_2,v2,v3,.pointer none]) w:=by
 simp[Instr.build,Instr.fill,bx,zeroValue149,runUnderlying149,sizeOf130,sizeOf134,sizeOf146,sizeOf147,sizeOf90,aH h0,aH h2,aH h3]
theorem AU(w:World):(Instr.build 151 #[]).run Tryz.prog w= .ok (.agg #[.int .i64 0,.int .i64 0,.slice none 0 0]) w:=by
 simp[Instr.build,Instr.fill,bx,zeroValue151,runUnderlying151,sizeOf3,sizeOf30]
theorem mB(v0:Value)(v1:Value)(h0:aL v0=true)(h1:aL v1=true)(w:World):(Instr.build 151 #[(0,v0),(1,v1)]).run Tryz.prog w= .ok (.agg #[v0,v1,.slice none 0 0]) w:=by
 simp[Instr.build,Instr.fill,bx,zeroValue151,runUnderlying151,sizeOf3,sizeOf30,aH h0,aH h1]
theorem vY(w:World):(Instr.build 155 #[]).run Tryz.prog w= .ok (.agg #[.int .i64 0,.int .i64 0]) w:=by
 simp[Instr.build,Instr.fill,bx,zeroValue155,runUnderlying155,sizeOf3]
theorem tv(v0:Value)(v1:Value)(h0:aL v0=true)(h1:aL v1=true)(w:World):(Instr.build 155 #[(0,v0),(1,v1)]).run Tryz.prog w= .ok (.agg #[v0,v1]) w:=by
 simp[Instr.build,Instr.fill,bx,zeroValue155,runUnderlying155,sizeOf3,aH h0,aH h1]
theorem q9(w:World):(Instr.build 160 #[]).run Tryz.prog w= .ok (.agg #[.int .i64 0,.int .i64 0,.int .i64 0]) w:=by
 simp[Instr.build,Instr.fill,bx,zeroValue160,runUnderlying160,sizeOf102,sizeOf3]
theorem tu(v0_0 v0_1:Value)(v1:Value)(h1:aL v1=true)(w:World):(Instr.build 160 #[(0,.agg #[v0_0,v0_1]),(1,v1)]).run Tryz.prog w= .ok (.agg #[v0_0,v0_1,v1]) w:=by
 simp[Instr.build,Instr.fill,bx,zeroValue160,runUnderlying160,sizeOf102,sizeOf3,aH h1]
theorem xe(v1:Value)(h1:aL v1=true)(w:World):(Instr.build 160 #[(1,v1)]).run Tryz.prog w= .ok (.agg #[.int .i64 0,.int .i64 0,v1]) w:=by
 simp[Instr.build,Instr.fill,bx,zeroValue160,runUnderlying160,sizeOf102,sizeOf3,aH h1]
theorem kF(v0:Value)(v1:Value)(v2_0 v2_1 v2_2:Value)(h0:aL v0=true)(h1:aL v1=true)(w:World):(Instr.build 171 #[(0,v0),(1,v1),(2,.agg #[v2_0,v2_1,v2_2])]).run Tryz.prog w= .ok (.agg #[v0,v1,v2_0,v2_1,v2_2,.bool false,.int .i64 0,.int .i64 0,.map none,.map none]) w:=by
 simp[Instr.build,Instr.fill,bx,zeroValue171,runUnderlying171,sizeOf134,sizeOf155,sizeOf168,sizeOf169,sizeOf4,sizeOf90,aH h0,aH h1]
theorem tq(v0:Value)(v1:Value)(h0:aL v0=true)(h1:aL v1=true)(w:World):(Instr.build 189 #[(0,v0),(1,v1)]).run Tryz.prog w= .ok (.agg #[v0,v1]) w:=by
 simp[Instr.build,Instr.fill,bx,zeroValue189,runUnderlying189,sizeOf5,aH h0,aH h1]
theorem gN(v1:Value)(h1:aL v1=true)(w:World):(Instr.build 189 #[(1,v1)]).run Tryz.prog w= .ok (.agg #[.int .u8 0,v1]) w:=by
 simp[Instr.build,Instr.fill,bx,zeroValue189,runUnderlying189,sizeOf5,aH h1]
theorem tn(v0:Value)(v1:Value)(h0:aL v0=true)(h1:aL v1=true)(w:World):(Instr.build 198 #[(0,v0),(1,v1)]).run Tryz.prog w= .ok (.agg #[v0,v1,.int .i64 0]) w:=by
 simp[Instr.build,Instr.fill,bx,zeroValue198,runUnderlying198,sizeOf196,sizeOf3,aH h0,aH h1]
theorem mY(w:World):(Instr.build 214 #[]).run Tryz.prog w= .ok (.agg #[]) w:=by
 simp[Instr.build,Instr.fill,bx,zeroValue214,runUnderlying214]
theorem pf(v0:Value)(v1_0 v1_1 v1_2:Value)(v2:Value)(h0:aL v0=true)(h2:aL v2=true)(w:World):(Instr.build 228 #[(0,v0),(1,.agg #[v1_0,v1_1,v1_2]),(2,v2)]).run Tryz.prog w= .ok (.agg #[v0,v1_0,v1_1,v1_2,v2,.int .i64 0]) w:=by
 simp[Instr.build,Instr.fill,bx,zeroValue228,runUnderlying228,sizeOf134,sizeOf25,sizeOf3,sizeOf90,aH h0,aH h2]
theorem fz(v0:Value)(v1_0 v1_1 v1_2:Value)(v2_0 v2_1 v2_2:Value)(v3:Value)(v4:Value)(v5:Value)(v6:Value)(v7:Value)(h0:aL v0=true)(h3:aL v3=true)(h4:aL v4=true)(h5:aL v5=true)(h6:aL v6=true)(h7:aL v7=true)(w:World):(Instr.build 247 #[(0,v0),(1,.agg #[v1_0,v1_1,v1_2]),(2,.agg #[v2_0,v2_1,v2_2]),(3,v3),(4,v4),(5,v5),(6,v6),(7,v7)]).run Tryz.prog w= .ok (.agg #[v0,v1_0,v1_1,v1_2,v2_0,v2_1,v2_2,v3,v4,v5,v6,v7,.bool false]) w:=by
 simp[Instr.build,Instr.fill,bx,zeroValue247,runUnderlying247,sizeOf134,sizeOf151,sizeOf245,sizeOf3,sizeOf30,sizeOf4,sizeOf90,aH h0,aH h3,aH h4,aH h5,aH h6,aH h7]
theorem mE(v0:Value)(v1:Value)(v2:Value)(v3:Value)(h0:aL v0=true)(h1:aL v1=true)(h2:aL v2=true)(h3:aL v3=true)(w:World):(Instr.build 253 #[(0,v0),(1,v1),(2,v2),(3,v3)]).run Tryz.prog w= .ok (.agg #[v0,v1,v2,v3]) w:=by
 simp[Instr.build,Instr.fill,bx,zeroValue253,runUnderlying253,sizeOf206,sizeOf251,sizeOf30,aH h0,aH h1,aH h2,aH h3]
theorem xd(v0:Value)(h0:aL v0=true)(w:World):(Instr.build 255 #[(0,v0)]).run Tryz.prog w= .ok (.agg #[v0,.int .i64 0]) w:=by
 simp[Instr.build,Instr.fill,bx,zeroValue255,runUnderlying255,sizeOf3,aH h0]
theorem AT(w:World):(Instr.build 296 #[]).run Tryz.prog w= .ok (.agg #[]) w:=by
 simp[Instr.build,Instr.fill,bx,zeroValue296,runUnderlying296]
structure Pow where
 lim:Int
 used:Int
def Pow.out(s:Pow):Bool:=decide (0≤s.lim)&&decide (s.lim≤s.used)
def Pow.up(s:Pow):Pow:={s with used:=IntKind.i64.wrap (s.used+1)}
def jr(b:Nat)(s:Pow):HP:=row b [.int .i64 s.lim,.int .i64 s.used] 255
def dN:List PanicEntry:=[{v:= .iface 296 (.agg #[]),recovered:=false}]
abbrev ptr(b:Nat):Value:= .pointer (some ⟨b,0,none⟩)
theorem qA(B:World)(Fr:List HP)(n:Int):
 ∀ w,Holds B Fr w→Calls Tryz.prog 127 [.int .i64 n].toArray w (Ret B (fun v H'=>∃ b,v=ptr b∧H'=jr b ⟨n,0⟩::Fr) (fun _ _=>False)):=by
 refine ap func127 aa ntmps127 aa (ac (ab (kPa aa aa (ad (ac (ab (kPm aa aa (kPv (aP aa (xd _ aa)) aa (kPb (aY aa) aa fun b5=>(kPa aa aa (ad ?_)))))))))))
 refine aB ?_
 exact aw results127 aa (fun w hw=>⟨_,⟨_,rfl,rfl⟩,hw⟩)
theorem zN(B:World)(Fr:List HP)(b:Nat)(s:Pow):
 ∀ w,Holds B (jr b s::Fr) w→Calls Tryz.prog 252 [ptr b].toArray w (aZ B (jr b s::Fr) (.int .i64 s.used)):=by
 rw[jr]
 refine ap func252 aa ntmps252 aa (ac (ab (kPa aa aa (ad (ac (ab (kPf ls isAgg3 aa aa aa aa (kPa aa aa (ad (aB ?_))))))))))
 exact aw results252 aa (fun w hw=>⟨rfl,hw⟩)
theorem kY(B:World)(Fr:List HP)(b:Nat)(s:Pow):
 ∀ w,Holds B (jr b s::Fr) w→Calls Tryz.prog 189 [ptr b].toArray w (Ret B (fun v H'=>∃ s',(s.out=false∧v= .tuple #[]∧s.up=s')∧H'=jr b s'::Fr) (fun c H'=>∃ s',(s.out=true∧c=dN∧s=s')∧H'=jr b s'::Fr)):=by
 rw[jr]
 refine ap func189 aa ntmps189 aa (ac (ac (cL Tryz.mixed (by kernel_rfl) (by kernel_rfl) ?_)))
 refine kQm aa aa (kQv (aJ aa) aa (kQv (aF (m:=_) sO aa aa) aa (kQv (ai isAgg3 aa aa) aa (kQv (am aa aa aa) aa (kQm aa aa ?_)))))
 apply mn (tp:=17) (t:=7) (σ1:=[(7,_),(0,_)]) 10 rfl ⟨rfl,rfl,trivial⟩
 ·intro hg1
  refine bf aa (ak aa) (.on aa aa (ae hg1)) aa (bf aa (aJ aa) (.on aa aa (ae hg1)) aa (bf aa (aF (m:=_) ls aa aa) (.on aa aa (ae hg1)) aa (bf aa (ai isAgg3 aa aa) (.on aa aa (ae hg1)) aa (bf aa (ak aa) (.on aa aa (ae hg1)) aa (bf aa (aJ aa) (.on aa aa (ae hg1)) aa (bf aa (aF (m:=_) sO aa aa) (.on aa aa (ae hg1)) aa (bf aa (ai isAgg3 aa aa) (.on aa aa (ae hg1)) aa (bf aa (am aa aa aa) (.on aa aa (ae hg1)) aa (kQv (au aa hg1 aa) aa ?_)))))))))
  exact eG aa ⟨rfl,rfl,trivial⟩ (cE hg1)
 ·intro hg1
  refine aW aa (.on aa aa (ag hg1)) aa (aW aa (.on aa aa (ag hg1)) aa (aW aa (.on aa aa (ag hg1)) aa (aW aa (.on aa aa (ag hg1)) aa (aW aa (.on aa aa (ag hg1)) aa (aW aa (.on aa aa (ag hg1)) aa (aW aa (.on aa aa (ag hg1)) aa (aW aa (.on aa aa (ag hg1)) aa (aW aa (.on aa aa (ag hg1)) aa (kQv (aD aa hg1 aa) aa ?_)))))))))
  exact eG aa ⟨rfl,rfl,trivial⟩ (cF hg1)
 refine bU ?_
 refine ba aa (fun h17=> ?_) (fun h17=> ?_)
 ·try simp only[decide_eq_true_eq,decide_eq_false_iff_not,Bool.not_eq_true',Bool.not_eq_false',Bool.or_eq_true,Bool.and_eq_true,Bool.and_eq_false_iff,Bool.or_eq_false_iff,beq_iff_eq,bne_iff_ne,beq_eq_false_iff_ne,bne_eq_false_iff_eq,ge_iff_le,gt_iff_lt,ne_eq] at h17
  refine ab (kPv (aP aa (AT)) aa (kPv (zc runUnderlying296 aa aa) aa (yc aa .free ?_)))
  exact a8 (fun w hw=>⟨_,⟨_,⟨by simp[Pow.out];omega,rfl,rfl⟩,rfl⟩,hw⟩)
 ·try simp only[decide_eq_true_eq,decide_eq_false_iff_not,Bool.not_eq_true',Bool.not_eq_false',Bool.or_eq_true,Bool.and_eq_true,Bool.and_eq_false_iff,Bool.or_eq_false_iff,beq_iff_eq,bne_iff_ne,beq_eq_false_iff_ne,bne_eq_false_iff_eq,ge_iff_le,gt_iff_lt,ne_eq] at h17
  refine aq (ab (kPf ls isAgg3 aa aa aa aa (kPv (aN aa aa) aa (kPv (aJ aa) aa (kPv (aF (m:=_) ls aa aa) aa (kPs (aO sizeOf3 aa aa aa aa) aa (ad (ao [] rfl ?_))))))))
  exact cJ results189 (fun w hw=>⟨_,⟨_,⟨by simp[Pow.out];omega,rfl,rfl⟩,rfl⟩,hw⟩)
theorem zZ{B:World}{H:List HP}{b:Nat}{x:Bool}{w:World}(hw:Holds B (row b [.bool x] 4::H) w):
 CallsD Tryz.prog 254 #[ptr b] (.panicking dN) w fun e u' w'=>e= .returned (.tuple #[])∧u'= .panicking [{v:= .iface 296 (.agg #[]),recovered:=true}]∧Holds B (row b [.bool false] 4::H) w':=by
 refine callsD_of_wpS func254 aa fun c₀ cs hu=> ?_
 apply wpS_seq
 apply wpS_region
 simp[wpOpsS,go_sem,recoverD,hu,dN,ntmps254,Exit.thenS]
 refine xx (n:=15) (σ:=[(0,ptr b),(1,.iface 296 (.agg #[]))]) (K:=AM (Holds B (row b [.bool false] 4::H))) (X:=noX) (by simp) aa (by simp[KnA]) hw ?_ ?_
 ·skip
  refine ac (ab (kPm aa aa ?_))
  first | refine aj rfl (lC runUnderlying20 rfl (.inr ⟨_,_,rfl⟩)) .free rfl rfl ?_ | refine aj rfl (lC runUnderlying20 rfl (.inl rfl)) .free rfl rfl ?_
  refine ad (sB aa (rfl) (ac (ac (ab (kPm aa aa (kPv (CS runUnderlying296 aa aa) aa (kPm aa aa (kPv (aA aa aa) aa (kPv (aA aa aa) aa (kPb (aE zeroValue296 aa) aa fun b2=>(kPs (ay (vs:=_) sizeOf296 aa aa aa aa aa) aa ?_)))))))))))
  refine kPa aa aa (ad (ao [3,0,1] rfl (ac (ab (kPm aa aa (kPv (bu aa) aa (ad (bE aa (rfl) (aq (ab (kPs (aO sizeOf4 aa aa aa aa) aa ?_)))))))))))
  refine ad ?_
  exact vC fun _ h=>by first | exact h | exact(h.front 1 rfl).map fun _ k=>fG (fun _ k=>gO k) k
 ·intro e a w' q
  obtain⟨rfl,q1,q2⟩:=uR q
  refine⟨q1,.panicking [{v:= .iface 296 (.agg #[]),recovered:=true}],rfl,.tuple #[],?_,rfl,rfl,q2⟩
  exact results_none results254 _ _ _
theorem x4{B:World}{H:List HP}{b:Nat}{x:Bool}{w:World}(hw:Holds B (row b [.bool x] 4::H) w):
 CallsD Tryz.prog 254 #[ptr b] .returning w fun e u' w'=>e= .returned (.tuple #[])∧u'= .returning∧Holds B (row b [.bool x] 4::H) w':=by
 refine callsD_of_wpS func254 aa fun c₀ cs hu=> ?_
 apply wpS_seq
 apply wpS_region
 simp[wpOpsS,go_sem,recoverD,hu,ntmps254,Exit.thenS]
 refine xx (n:=15) (σ:=[(0,ptr b),(1,.nilIface)]) (K:=AM (Holds B (row b [.bool x] 4::H))) (X:=noX) (by simp) aa (by simp[KnA]) hw ?_ ?_
 ·skip
  refine ac (ab (kPm aa aa ?_))
  first | refine aj rfl (lC runUnderlying20 rfl (.inr ⟨_,_,rfl⟩)) .free rfl rfl ?_ | refine aj rfl (lC runUnderlying20 rfl (.inl rfl)) .free rfl rfl ?_
  refine ad (bE aa (rfl) (aq ?_))
  exact vC fun _ h=>h
 ·intro e a w' q
  obtain⟨rfl,q1,q2⟩:=uR q
  refine⟨q1,.returning,?_,.tuple #[],?_,rfl,rfl,q2⟩
  ·cases c₀;simp_all
  ·exact results_none results254 _ _ _
theorem By{B:World}{g:FuncId}{cap:List Value}{H:List HP}{Φ Ψ:List HP→Prop}(hc:∀ args w,(callFunc g args).run Tryz.prog w= .ok (.enter g args) w)
 (h:∀ A w,Holds B (A::H) w→Calls Tryz.prog g cap.toArray w (Ret B (fun _ H'=>∃ H1,Φ H1∧∀ w,Holds B H' w→Holds B (A::H1) w) (fun c H'=>c=dN∧∃ H1,Ψ H1∧∀ w,Holds B H' w→Holds B (A::H1) w))):
 ∀ w,Holds B H w→Calls Tryz.prog 250 [.func (.func g) #[] cap.toArray].toArray w (Ret B (fun v H'=>(v= .bool true∧Φ H')∨(v= .bool false∧Ψ H')) (fun _ _=>False)):=by
 refine ul func250 aa ntmps250 aa (ac (ab (kPb (bX zeroValue4 aa) aa fun b=>(ad (ac (ab (kPv (dt aa aa) aa (z8 aa aa .free (ad (ac (ab ?_)))))))))))
 refine kPm aa aa ?_
 refine aS aa (ky hc aa aa) (by simpa using h (row b [.bool false] 4)) .free aa aa ?_ ?_
 ·rintro v H' ⟨H1,hΦ,hi⟩
  refine aM hi (ad (ac (ab (kPs (aO sizeOf4 aa aa aa aa) aa (ad (aB ?_))))))
  intro a w s
  show Leaves _ _ _ _ a.defers .returning w
  rw[s.defers]
  refine leaves_cons (f:=254) (args:= #[ptr b]) (by simp) (by simp[invoke,call254]) ((x4 (x:=true) s.holds).mono ?_)
  rintro e u' w' ⟨rfl,rfl,hw'⟩
  refine⟨.bool true,?_,H1,.inl ⟨rfl,hΦ⟩,hw'.tail⟩
  have h1:=s.env 2 (ptr b) rfl
  have h2:=hw'.ucell (b:=b) 0
  simp[results,results250,h1,asAddr,loadVar,isAgg4,load,Sem.run,h2]
 ·rintro c H' ⟨rfl,H1,hΨ,hi⟩
  refine aM hi ?_
  intro a w s
  show Leaves _ _ _ _ a.defers (.panicking dN) w
  rw[s.defers]
  refine leaves_cons (f:=254) (args:= #[ptr b]) (by simp) (by simp[invoke,call254]) ((zZ (x:=false) s.holds).mono ?_)
  rintro e u' w' ⟨rfl,rfl,hw'⟩
  refine⟨.bool false,?_,H1,.inr ⟨rfl,hΨ⟩,hw'.tail⟩
  have h1:=s.env 2 (ptr b) rfl
  have h2:=hw'.ucell (b:=b) 0
  simp[results,results250,h1,asAddr,loadVar,isAgg4,load,Sem.run,h2]
theorem u4{B:World}{g:FuncId}{cap:List Value}{H:List HP}(r:Bool)(F:List HP)(hc:∀ args w,(callFunc g args).run Tryz.prog w= .ok (.enter g args) w)
 (h:∀ A w,Holds B (A::H) w→Calls Tryz.prog g cap.toArray w (Ret B (fun _ H'=>r=true∧∀ w,Holds B H' w→Holds B (A::F) w) (fun c H'=>r=false∧c=dN∧∀ w,Holds B H' w→Holds B (A::F) w))):
 ∀ w,Holds B H w→Calls Tryz.prog 250 [.func (.func g) #[] cap.toArray].toArray w (Ret B (fun v H'=>v= .bool r∧H'=F) (fun _ _=>False)):=by
 intro w hw
 refine(By (Φ:=fun H1=>r=true∧H1=F) (Ψ:=fun H1=>r=false∧H1=F) hc (fun A w hw=>(h A w hw).mono (Ret.mono (fun v H' h=>⟨F,⟨h.1,rfl⟩,h.2⟩) (fun c H' h=>⟨h.2.1,F,⟨h.1,rfl⟩,h.2.2⟩))) w hw).mono (Ret.mono ?_ (fun _ _ h=>h))
 rintro v H' (⟨rfl,rfl,rfl⟩ | ⟨rfl,rfl,rfl⟩)<;>exact⟨rfl,rfl⟩
abbrev w64(x:Int):Value:= .int .u64 x
abbrev qT(ws:List Int):Value:= .agg (ws.map w64).toArray
abbrev i64(x:Int):Value:= .int .i64 x
structure Dev where
 pa:Nat
 pow:Pow
 n:Nat
 now:Nat→Int
 kept:Nat→Int
 q:Nat→Option (Nat→Int)
structure xr(n:Nat)(q:Nat→Option (Nat→Int))(l:List (Int×List Int)):Prop where
 pos:∀ p∈l,0≤p.1
 get:∀ k:Nat,bI l k=(q k).map (tab 8)
 lt:∀ k f,q k=some f→k*8+8≤n
structure zJ(s:Dev)(l:List (Int×List Int)):Prop where
 line:s.n%8=0
 pos:0<s.n
 le:s.n≤1000000
 rep:xr s.n s.q l
def Cp(b bn bk bq:Nat)(rest:List Value)(l:List (Int×List Int))(s:Dev):List HP:=
 [row b [.pointer (some ⟨s.pa,0,none⟩),.slice (some ⟨bn,0,none⟩) s.n s.n,.slice (some ⟨bk,0,none⟩) s.n (s.n+rest.length),.map (some bq)] 253,
  row bn (tab s.n fun i=>w64 (s.now i)) 25,row bk (tab s.n (fun i=>w64 (s.kept i))++rest) 25,bi .i64 qT bq l,jr s.pa s.pow,pr (zJ s l)]
def az(b:Nat)(s:Dev):HP:=hex fun (x:Nat×Nat×Nat×List Value×List (Int×List Int))=>grp (Cp b x.1 x.2.1 x.2.2.1 x.2.2.2.1 x.2.2.2.2 s)
theorem pL{B:World}{b:Nat}{s:Dev}{Fr:List HP}{w:World}(h:Holds B (az b s::Fr) w):∃ bn bk bq rest l,zJ s l∧Holds B (row b [.pointer (some ⟨s.pa,0,none⟩),.slice (some ⟨bn,0,none⟩) s.n s.n,.slice (some ⟨bk,0,none⟩) s.n (s.n+rest.length),.map (some bq)] 253::
 row bn (tab s.n fun i=>w64 (s.now i)) 25::row bk (tab s.n (fun i=>w64 (s.kept i))++rest) 25::bi .i64 qT bq l::jr s.pa s.pow::Fr) w:=by
 obtain⟨x,hx⟩:=h.hex
 have h2:=hx.grp
 simp only[Cp,List.cons_append,List.nil_append] at h2
 have h3:=(h2.front 5 rfl).pr
 exact⟨_,_,_,_,_,h3.1,h3.2⟩
theorem db{B:World}{b:Nat}{s:Dev}{Fr:List HP}{w:World}{bn bk bq:Nat}{rest:List Value}{l:List (Int×List Int)}(hw:zJ s l)(h:Holds B (row b [.pointer (some ⟨s.pa,0,none⟩),.slice (some ⟨bn,0,none⟩) s.n s.n,.slice (some ⟨bk,0,none⟩) s.n (s.n+rest.length),.map (some bq)] 253::
 row bn (tab s.n fun i=>w64 (s.now i)) 25::row bk (tab s.n (fun i=>w64 (s.kept i))++rest) 25::bi .i64 qT bq l::jr s.pa s.pow::Fr) w):Holds B (az b s::Fr) w:=by
 refine Holds.unhex (bn,bk,bq,rest,l) (Holds.ungrp (l:=Cp b bn bk bq rest l s) ?_)
 exact(h.unpr hw).back 5 (by simp)
theorem jX{B:World}{n:Nat}{D:List Deferred}{σ:Env}{b:Nat}{s:Dev}{Fr:List HP}{K:Act→World→Prop}(h:∀ bn bk bq rest l,zJ s l→GO B n D σ (row b [.pointer (some ⟨s.pa,0,none⟩),.slice (some ⟨bn,0,none⟩) s.n s.n,.slice (some ⟨bk,0,none⟩) s.n (s.n+rest.length),.map (some bq)] 253::
 row bn (tab s.n fun i=>w64 (s.now i)) 25::row bk (tab s.n (fun i=>w64 (s.kept i))++rest) 25::bi .i64 qT bq l::jr s.pa s.pow::Fr) K):GO B n D σ (az b s::Fr) K:=fun a w st=>by
 obtain⟨bn,bk,bq,rest,l,h1,h2⟩:=pL st.holds
 exact h bn bk bq rest l h1 a w ⟨st.toStA,h2⟩
theorem kE{B:World}{n:Nat}{D:List Deferred}{σ:Env}{H:List HP}{K:Act→World→Prop}(b:Nat){s:Dev}{Fr:List HP}[At H az b s Fr](h:s.n%8=0→0<s.n→s.n≤1000000→GO B n D σ H K):GO B n D σ H K:=fun a w st=>by
 obtain⟨_,_,_,_,_,hw,_⟩:=pL (st.holds.pull az b)
 exact h hw.line hw.pos hw.le a w st
inductive Out (α:Type) where
 | ok (a:α) (s:Dev)
 | off (s:Dev)
abbrev okV{α:Type}(enc:α→Value)(m:Out α)(v:Value)(s:Dev):Prop:=∃ a,m= .ok a s∧v=enc a
abbrev BI{α:Type}(m:Out α)(c:List PanicEntry)(s:Dev):Prop:=m= .off s∧c=dN
abbrev A6(_:Unit):Value:= .tuple #[]
def Dev.has(s:Dev)(i:Int):Bool:=decide (0≤i)&&decide (i<s.n)
def Dev.load(s:Dev)(i:Int):Int:=if s.has i=true then s.now i.toNat else 0
def Dev.up(s:Dev):Dev:={s with pow:=s.pow.up}
def Dev.st(s:Dev)(i:Nat)(v:Int):Dev:={s with now:=upd s.now i v}
def Dev.fl(s:Dev)(i:Nat):Dev:={s with q:=upd s.q (i / 8) (some fun k=>s.now (i / 8*8+k))}
def eA(kept:Nat→Int)(q:Nat→Option (Nat→Int))(i:Nat):Int:=match q (i / 8) with
 | some f=>f (i%8)
 | none=>kept i
def Dev.fe(s:Dev):Dev:={s with kept:=eA s.kept s.q,q:=fun _=>none}
def Dev.store(s:Dev)(i v:Int):Out Int:=if s.has i=false then .ok 1 s else if s.pow.out=true then .off s else .ok 0 (s.up.st i.toNat v)
def Dev.flush(s:Dev)(i:Int):Out Int:=if s.has i=false then .ok 1 s else if s.pow.out=true then .off s else .ok 0 (s.up.fl i.toNat)
def Dev.fence(s:Dev):Out Unit:=if s.pow.out=true then .off s else .ok () s.up.fe
def Dev.crash(s:Dev)(c:Nat→Int):Dev:=
 let k:=fun i=>if c i%3=1 then eA s.kept s.q i else if c i%3=2 then s.now i else s.kept i
 {s with now:=k,kept:=k,q:=fun _=>none}
theorem kj(B:World)(Fr:List HP)(b:Nat)(s:Dev):
 ∀ w,Holds B (az b s::Fr) w→Calls Tryz.prog 143 [ptr b].toArray w (aZ B (az b s::Fr) (i64 s.n)):=by
 refine ap func143 aa ntmps143 aa (jX fun bn bk bq rest l hw=> ?_)
 have hw1:=hw.line
 have hw2:=hw.pos
 have hw3:=hw.le
 refine ac (ab (kPa aa aa (ad (ac (ab (kPf fM isAgg30 aa aa aa aa (kPv (bH aa runUnderlying30 ⟨_,rfl⟩ rfl) aa (kPa aa aa (ad (aB ?_))))))))))
 exact aw results143 aa (fun w hh=>⟨rfl,db hw hh⟩)
theorem qE(B:World)(Fr:List HP)(b:Nat)(s:Dev)(i:Int):
 ∀ w,Holds B (az b s::Fr) w→Calls Tryz.prog 188 [ptr b,i64 i].toArray w (aZ B (az b s::Fr) (.bool (s.has i))):=by
 refine ap func188 aa ntmps188 aa (jX fun bn bk bq rest l hw=> ?_)
 have hw1:=hw.line
 have hw2:=hw.pos
 have hw3:=hw.le
 refine ac (ab (kPa aa aa (ad (ac (ab (kPm aa aa (kPv (am aa aa aa) aa (kPm aa aa ?_))))))))
 apply dq (tp:=15) (t:=7) (σ1:=[(7,_),(4,_)]) 8 rfl ⟨rfl,rfl,trivial⟩
 ·intro hg1
  refine aj aa (ak aa) (.on aa aa (ae hg1)) aa aa (aj aa (ak aa) (.on aa aa (ae hg1)) aa aa (aj aa (aJ aa) (.on aa aa (ae hg1)) aa aa (aj aa (aF (m:=_) fM aa aa) (.on aa aa (ae hg1)) aa aa (aj aa (ai isAgg30 aa aa) (.on aa aa (ae hg1)) aa aa (aj aa (bH aa runUnderlying30 ⟨_,rfl⟩ rfl) (.on aa aa (ae hg1)) aa aa (aj aa (am aa aa aa) (.on aa aa (ae hg1)) aa aa (kPv (au aa hg1 aa) aa ?_)))))))
  exact aT aa ⟨rfl,rfl,trivial⟩ (cE hg1)
 ·intro hg1
  refine al aa (.on aa aa (ag hg1)) aa (al aa (.on aa aa (ag hg1)) aa (al aa (.on aa aa (ag hg1)) aa (al aa (.on aa aa (ag hg1)) aa (al aa (.on aa aa (ag hg1)) aa (al aa (.on aa aa (ag hg1)) aa (al aa (.on aa aa (ag hg1)) aa (kPv (aD aa hg1 aa) aa ?_)))))))
  exact aT aa ⟨rfl,rfl,trivial⟩ (cF hg1)
 refine kPa aa aa (ad (aB ?_))
 exact aw results188 aa (fun w hh=>⟨rfl,db hw hh⟩)
theorem kQ(B:World)(Fr:List HP)(q:Option Addr)(n cap:Nat)(cs:List Value)(hq:q≠none)(hn:cs.length≤1000000)(hc:cs.all aL=true)(hr:SlR B Fr (.slice q n cap) cs):
 ∀ w,Holds B Fr w→Calls Tryz.prog 178 [.slice q n cap].toArray w (Ret B (fun v H'=>∃ bn rest,v= .slice (some ⟨bn,0,none⟩) n (n+rest.length)∧H'=row bn (cs++rest) 25::Fr) (fun _ _=>False)):=by
 refine ap func178 aa ntmps178 aa ?_
 obtain⟨_,_,e0,_⟩:=hr.ex
 obtain rfl:n=cs.length:=by injection e0
 refine ac (ab (kPa aa aa (ad (ac (ac (ab (kPm aa aa (kPv (vN runUnderlying30 aa aa aa) aa (ad (bE aa (by cases q with | none=>exact absurd aa hq | some _=>rfl) (aq ?_)))))))))))
 refine ac (ab (kPb (ur runUnderlying30 sizeOf25) aa fun b0=>(kPm aa aa (cP aa (iR aa aa runUnderlying30 runUnderlying30 ⟨_,rfl⟩ sizeOf25 zeroValue25 aa ik aa aa (hr.cons _) (by simp) (by simp) (by simp;omega) hc) .free aa aa (fun v H' hY=> ?_)))))
 have hY2:∃ bn rest,v= .slice (some ⟨bn,0,none⟩) cs.length (cs.length+rest.length)∧∀ w,Holds B H' w→Holds B (row bn (cs++rest) 25::Fr) w:=by
  rcases hY with ⟨h1,rfl,rfl⟩ | ⟨h1,bn,cn,rest,h2,_,rfl,rfl⟩
  ·have:cs=[]:=by simpa using h1
   subst this
   exact⟨b0,[],rfl,fun w h=>h⟩
  ·exact⟨bn,rest,by simp[←h2],fun w h=>by simpa using(h.front 1 aa).tail⟩
 obtain⟨bn,rest,rfl,hY3⟩:=hY2
 refine aM hY3 (kPa aa aa (ad (aB ?_)))
 exact aw results178 aa (fun w hw=>⟨_,⟨_,_,rfl,rfl⟩,hw⟩)
theorem cf(B:World)(Fr:List HP)(b:Nat)(s:Dev)(i:Int):
 ∀ w,Holds B (az b s::Fr) w→Calls Tryz.prog 173 [ptr b,i64 i].toArray w (aZ B (az b s::Fr) (w64 (s.load i))):=by
 refine ap func173 aa ntmps173 aa (ac (ab (kPa aa aa (ad (ac (ac (ab (kPm aa aa (kPm aa aa (ax aa (ar call188 aa) (bF (fun Fr=>qE _ Fr _ _ _)) .free aa aa ?_))))))))))
 refine kPv (bu aa) aa (ad ?_)
 refine ba aa (fun h8=> ?_) (fun h8=> ?_)
 ·try simp only[decide_eq_true_eq,decide_eq_false_iff_not,Bool.not_eq_true',Bool.not_eq_false',Bool.or_eq_true,Bool.and_eq_true,Bool.and_eq_false_iff,Bool.or_eq_false_iff,beq_iff_eq,bne_iff_ne,beq_eq_false_iff_ne,bne_eq_false_iff_eq,ge_iff_le,gt_iff_lt,ne_eq] at h8
  refine ac (ab (kPa aa aa (ad (aB ?_))))
  exact aw results173 aa (fun w hh=>by
   first
    | exact⟨by simp[Dev.load,h8],db hw hh⟩
    | exact⟨by simp[Dev.load,h8],hh⟩)
 ·try simp only[decide_eq_true_eq,decide_eq_false_iff_not,Bool.not_eq_true',Bool.not_eq_false',Bool.or_eq_true,Bool.and_eq_true,Bool.and_eq_false_iff,Bool.or_eq_false_iff,beq_iff_eq,bne_iff_ne,beq_eq_false_iff_ne,bne_eq_false_iff_eq,ge_iff_le,gt_iff_lt,ne_eq] at h8
  refine aq (ac (ab (jX fun bn bk bq rest l hw=> ?_)))
  have hw1:=hw.line
  have hw2:=hw.pos
  have hw3:=hw.le
  have hi:0≤i∧i<s.n:=by simpa [Dev.has] using h8
  refine kPf fM isAgg30 aa aa aa aa (kPm aa aa (kPv (cA runUnderlying30 sizeOf25 aa aa hi.1 hi.2) aa (kPv (ai isAgg25 aa (by rw[Nat.zero_add];exact dK (by omega))) aa (kPa aa aa (ad (ao [4] rfl (aB ?_)))))))
  exact aw results173 aa (fun w hh=>by
   first
    | exact⟨by simp[Dev.load,h8],db hw hh⟩
    | exact⟨by simp[Dev.load,h8],hh⟩)
theorem cm(B:World)(Fr:List HP)(b:Nat)(s:Dev)(i v:Int):
 ∀ w,Holds B (az b s::Fr) w→Calls Tryz.prog 145 [ptr b,i64 i,w64 v].toArray w (Ret B (fun rv H'=>∃ s',okV (fun e=>i64 e) (s.store i v) rv s'∧H'=az b s'::Fr) (fun c H'=>∃ s',BI (s.store i v) c s'∧H'=az b s'::Fr)):=by
 refine ap func145 aa ntmps145 aa (ac (ab (kPa aa aa (ad (ac (ac (ab (kPm aa aa (kPm aa aa (ax aa (ar call188 aa) (bF (fun Fr=>qE _ Fr _ _ _)) .free aa aa ?_))))))))))
 refine kPv (bu aa) aa (ad ?_)
 refine ba aa (fun h10=> ?_) (fun h10=> ?_)
 ·have hhas:s.has i=false:=by simpa using h10
  refine ac (ab (kPa aa aa (ad (aB ?_))))
  exact aw results145 aa (fun w hh=>⟨_,⟨s,⟨1,by simp[Dev.store,hhas],rfl⟩,rfl⟩,hh⟩)
 ·have hhas:s.has i=true:=by simpa using h10
  have hi:0≤i∧i<s.n:=by simpa [Dev.has] using hhas
  refine aq (ac (ab (jX fun bn bk bq rest l hw=> ?_)))
  have hw1:=hw.line
  have hw2:=hw.pos
  have hw3:=hw.le
  refine kPf ox isAgg206 aa aa aa aa ?_
  refine aS aa (ar call189 aa) (cy (fun Fr=>kY _ Fr _ _)) .free aa aa ?_ ?_
  rotate_left
  ·rintro _ _ ⟨_,⟨ho,rfl,rfl⟩,rfl⟩
   exact a8 fun w hh=>⟨_,⟨s,⟨by simp[Dev.store,hhas,ho],rfl⟩,rfl⟩,db hw hh⟩
  rintro _ _ ⟨_,⟨ho,rfl,rfl⟩,rfl⟩
  refine ad (ao [6,0,1,2] rfl (ac (ab (kPf fM isAgg30 aa aa aa aa (kPm aa aa (kPm aa aa (kPv (cA runUnderlying30 sizeOf25 aa aa hi.1 hi.2) aa (kPs (aO sizeOf25 aa aa aa (by simp[Nat.blt_eq,aX];omega)) aa (ad (ao [6] rfl (ac ?_)))))))))))
  refine ab (kPa aa aa (ad (aB ?_)))
  exact aw results145 aa (fun w hh=>by
   refine⟨_,⟨s.up.st i.toNat v,⟨0,by simp[Dev.store,hhas,ho],rfl⟩,rfl⟩,db (s:=s.up.st i.toNat v) (bn:=bn) (bk:=bk) (bq:=bq) (rest:=rest) (l:=l) ⟨hw.line,hw.pos,hw.le,hw.rep⟩ ?_⟩
   rw[Nat.zero_add,mI] at hh
   have e:(tab s.n fun j=>w64 ((s.up.st i.toNat v).now j))=tab s.n (upd (fun i=>w64 (s.now i)) i.toNat (w64 v)):=fc fun j _=>by
    simp only[Dev.st,upd];split<;>rfl
   rw[←e] at hh
   exact hh)
theorem BA{k:Nat}(h:k≤1000000000):IntKind.i64.wrap ((k:Int).tdiv 8)=((k / 8:Nat):Int):=by
 rw[gp (by rw[Int.tdiv_eq_ediv_of_nonneg (by omega)];omega),Int.tdiv_eq_ediv_of_nonneg (by omega)];omega
theorem CY{k:Nat}:((k:Int).tmod 8)=((k%8:Nat):Int):=by
 rw[Int.tmod_eq_emod_of_nonneg (by omega)];omega
theorem wj{α:Type}{n a m:Nat}{f:Nat→α}(h:a+m≤n):((tab n f).drop a).take m=tab m (fun j=>f (a+j)):=by
 apply List.ext_getElem?
 intro j
 by_cases hj:j<m
 ·rw[List.getElem?_take_of_lt hj,List.getElem?_drop,dK (by omega),dK hj]
 ·rw[List.getElem?_eq_none (by rw[List.length_take,List.length_drop,aX];omega),List.getElem?_eq_none (by rw[aX];omega)]
theorem x7{n:Nat}{qq:Nat→Option (Nat→Int)}{l:List (Int×List Int)}(h:xr n qq l)(k:Nat)(f:Nat→Int)(hk:k*8+8≤n):xr n (upd qq k (some f)) (mset l k (tab 8 f)):=by
 refine⟨fun p hp=> ?_,fun j=> ?_,fun j g hg=> ?_⟩
 ·rcases lk hp with rfl | hp
  ·simp
  ·exact h.pos p hp
 ·rw[iH]
  simp only[upd]
  by_cases e:j=k
  ·subst e;simp
  ·rw[if_neg (by omega),if_neg e];exact h.get j
 ·simp only[upd] at hg
  split at hg
  ·rename_i e;subst e;exact hk
  ·exact h.lt j g hg
theorem nF(n:Nat):xr n (fun _=>none) []:=⟨by simp,fun k=>rfl,fun _ _ h=>by cases h⟩
theorem dx(B:World)(Fr:List HP)(b:Nat)(s:Dev)(i:Int):
 ∀ w,Holds B (az b s::Fr) w→Calls Tryz.prog 151 [ptr b,i64 i].toArray w (Ret B (fun rv H'=>∃ s',okV (fun e=>i64 e) (s.flush i) rv s'∧H'=az b s'::Fr) (fun c H'=>∃ s',BI (s.flush i) c s'∧H'=az b s'::Fr)):=by
 refine ap func151 aa ntmps151 aa (ac (ab (kPa aa aa (ad (ac (ac (ab (kPm aa aa (kPm aa aa (ax aa (ar call188 aa) (bF (fun Fr=>qE _ Fr _ _ _)) .free aa aa ?_))))))))))
 refine kPv (bu aa) aa (ad ?_)
 refine ba aa (fun h9=> ?_) (fun h9=> ?_)
 ·have hhas:s.has i=false:=by simpa using h9
  refine ac (ab (kPa aa aa (ad (aB ?_))))
  exact aw results151 aa (fun w hh=>⟨_,⟨s,⟨1,by simp[Dev.flush,hhas],rfl⟩,rfl⟩,hh⟩)
 ·have hhas:s.has i=true:=by simpa using h9
  have hi:0≤i∧i<s.n:=by simpa [Dev.has] using hhas
  obtain⟨k,rfl⟩:∃ k:Nat,i=k:=⟨i.toNat,by omega⟩
  have hk:k<s.n:=by omega
  refine aq (ac (ab (jX fun bn bk bq rest l hw=> ?_)))
  have hw1:=hw.line
  have hw2:=hw.pos
  have hw3:=hw.le
  have hk8:k / 8*8+8≤s.n:=by omega
  refine kPf ox isAgg206 aa aa aa aa ?_
  refine aS aa (ar call189 aa) (cy (fun Fr=>kY _ Fr _ _)) .free aa aa ?_ ?_
  rotate_left
  ·rintro _ _ ⟨_,⟨ho,rfl,rfl⟩,rfl⟩
   exact a8 fun w hh=>⟨_,⟨s,⟨by simp[Dev.flush,hhas,ho],rfl⟩,rfl⟩,db hw hh⟩
  rintro _ _ ⟨_,⟨ho,rfl,rfl⟩,rfl⟩
  refine ad (ao [4,0,1] rfl (ac (ab (kPm aa aa (kPv (lX aa aa (by decide) (BA (by omega))) aa (kPa aa aa (ad (ac (cQ 17 Tryz.mixed (by kernel_rfl) (by kernel_rfl) ?_)))))))))
  refine kQm aa aa (kQv (aJ aa) aa (kQv (aF (m:=_) jY aa aa) aa (kQv (ai isAgg251 aa aa) aa (kQm aa aa (kQm aa aa (kQv (aJ aa) aa (kQv (aF (m:=_) fM aa aa) aa (kQv (ai isAgg30 aa aa) aa (kQm aa aa (kQv (oA (c:=((k / 8*8:Nat):Int)) aa aa (by rw[gp (by omega)];omega)) aa (kQm aa aa ?_)))))))))))
  refine kQv (ib (c:=((k / 8+1:Nat):Int)) aa aa (by rw[gp (by omega)];omega)) aa (kQv (oA (c:=(((k / 8+1)*8:Nat):Int)) aa aa (by rw[gp (by omega)];omega)) aa (kQv (j4 (m:=k / 8*8) runUnderlying30 sizeOf25 aa (.yes aa) (.yes aa) (by omega) (by omega) (.inl (by omega)) (by omega)) aa (kQv (B5 runUnderlying276 aa (by omega)) aa (kQv (ah isAgg276 sizeOf276 aa (by rw[Nat.ble_eq,aX];omega)) aa ?_))))
  refine bU (kPs (gj (u:=tab 8 fun j=>s.now (k / 8*8+j)) runUnderlying251 runUnderlying3 aa aa aa (by rw[wj hk8, ←kZ (g:=w64)])) aa (ad (ao [4] rfl (ac (ab (kPa aa aa (ad (aB ?_))))))))
  exact aw results151 aa (fun w hh=>by
   refine⟨_,⟨s.up.fl k,⟨0,by simp[Dev.flush,hhas,ho],rfl⟩,rfl⟩,db (s:=s.up.fl k) (bn:=bn) (bk:=bk) (bq:=bq) (rest:=rest) (l:=mset l ((k / 8:Nat):Int) (tab 8 fun j=>s.now (k / 8*8+j))) ⟨hw.line,hw.pos,hw.le,?_⟩ hh⟩
   exact x7 hw.rep (k / 8) _ hk8)
theorem wG{N:Nat}{xs:List Int}(h:xs.length≤N):cY (List.replicate N (.int .u64 0)) 0 (xs.map w64)=tab N fun i=>w64 (xs.getD i 0):=by
 apply List.ext_getElem?
 intro j
 rw[ja _ _ _ _ (by simp;omega)]
 by_cases hj:j<N
 ·rw[dK hj]
  by_cases h2:j<xs.length
  ·rw[if_pos (by simp;omega)];simp[h2,List.getD]
  ·rw[if_neg (by simp;omega)]
   simp[hj,List.getD,List.getElem?_eq_none (Nat.le_of_not_lt h2)]
 ·rw[if_neg (by simp;omega),List.getElem?_eq_none (by simp;omega),List.getElem?_eq_none (by rw[aX];omega)]
def qof(l:List (Int×List Int))(k:Nat):Option (Nat→Int):=(bI l k).map fun ws j=>ws.getD j 0
theorem rZ{α:Type}{l:List (Int×α)}{p:Int×α}(h:p.1∉l.map Prod.fst)(k:Int):bI (l++[p]) k=if k=p.1 then some p.2 else bI l k:=by
 induction l with
 | nil=>
   simp only[List.nil_append,bI]
   by_cases e:p.1=k
   ·simp[e]
   ·rw[if_neg e,if_neg (Ne.symm e)]
 | cons a l ih=>
   simp only[List.map_cons,List.mem_cons,not_or] at h
   simp only[List.cons_append,bI]
   by_cases e:a.1=k
   ·rw[if_pos e,if_pos e,if_neg (by rintro rfl;exact h.1 e.symm)]
   ·rw[if_neg e,if_neg e,ih h.2]
theorem wM{α:Type}{l d:List (Int×α)}(hl:(l.map Prod.fst).Nodup)(hd:(d.map Prod.fst).Nodup)(h1:∀ p∈d,p∈l)(h2:∀ p∈l,p∈d)(k:Int):bI d k=bI l k:=by
 cases e:bI d k with
 | some a=>exact(gT hl (h1 _ (nU e))).symm
 | none=>
   cases e2:bI l k with
   | none=>rfl
   | some a=>have:=gT hd (h2 _ (nU e2));simp only at this;rw[e] at this;cases this
theorem kK{cs vs:List Value}(h:vs.length=cs.length):cY cs 0 vs=vs:=by
 apply List.ext_getElem?
 intro j
 rw[ja _ _ _ _ (by omega)]
 by_cases hj:j<vs.length
 ·rw[if_pos (by omega)];simp
 ·rw[if_neg (by omega),List.getElem?_eq_none (by omega),List.getElem?_eq_none (by omega)]
theorem rp{n j:Nat}{f:Nat→Int}(h:j<n):(tab n f).getD j 0=f j:=by simp[List.getD,dK h]
theorem mZ(l:List Int):(l.map w64).all aL=true:=by simp[aL]
theorem um{kept:Nat→Int}{d:List (Int×List Int)}{k:Nat}{f:Nat→Int}(hn:(k:Int)∉d.map Prod.fst)(j:Nat):
 eA kept (qof (d++[((k:Int),tab 8 f)])) j=if k*8≤j∧j<k*8+8 then f (j - k*8) else eA kept (qof d) j:=by
 simp only[eA,qof]
 rw[rZ hn]
 by_cases e:j / 8=k
 ·subst e
  rw[if_pos rfl,if_pos (by omega)]
  simp only[Option.map_some]
  rw[rp (by omega)]
  congr 1;omega
 ·rw[if_neg (by omega),if_neg (by omega)]
theorem w8{kept:Nat→Int}{q:Nat→Option (Nat→Int)}{l d:List (Int×List Int)}{n:Nat}(hr:xr n q l)(hl:(l.map Prod.fst).Nodup)(hd:(d.map Prod.fst).Nodup)(h1:∀ p∈d,p∈l)(h2:∀ p∈l,p∈d):eA kept (qof d)=eA kept q:=by
 funext j
 simp only[eA,qof]
 rw[wM hl hd h1 h2,hr.get]
 cases q (j / 8) with
 | none=>rfl
 | some f=>simp only[Option.map_some];exact rp (by omega)
theorem tS{n:Nat}{q:Nat→Option (Nat→Int)}{l:List (Int×List Int)}(h:xr n q l)(hl:(l.map Prod.fst).Nodup){p:Int×List Int}(hp:p∈l):∃ (k:Nat) (f:Nat→Int),p=((k:Int),tab 8 f)∧k*8+8≤n:=by
 have h0:=h.pos p hp
 have h1:=gT hl hp
 have h2:=h.get p.1.toNat
 rw[show((p.1.toNat:Nat):Int)=p.1 by omega,h1] at h2
 cases e:q p.1.toNat with
 | none=>rw[e] at h2;cases h2
 | some f=>
   rw[e] at h2
   refine⟨p.1.toNat,f,?_,h.lt _ _ e⟩
   injection h2 with h2
   cases p;simp only at h0 h2 ⊢;rw[h2,Int.toNat_of_nonneg h0]
theorem rU{d l:List Int}(hd:d.Nodup)(h:∀ x∈d,x∈l):d.length≤l.length:=by
 induction d generalizing l with
 | nil=>simp
 | cons a d ih=>
   rw[List.nodup_cons] at hd
   have ha:=h a (by simp)
   have:=ih (l:=l.erase a) hd.2 (fun x hx=>(List.mem_erase_of_ne (by rintro rfl;exact hd.1 hx)).2 (h x (by simp[hx])))
   rw[List.length_erase_of_mem ha] at this
   have:=List.length_pos_of_mem ha
   simp;omega
theorem im{α:Type}{l d:List (Int×α)}{p:Int×α}(hd:((d++[p]).map Prod.fst).Nodup)(h:∀ x∈d++[p],x∈l):d.length<l.length:=by
 have:=rU (l:=l.map Prod.fst) hd (fun x hx=>by
  obtain⟨y,hy,rfl⟩:=List.mem_map.1 hx
  exact List.mem_map_of_mem (h y hy))
 simp at this;omega
theorem Holds.iter_w{B:World}{H:List HP}{α:Type}{kk:IntKind}{enc:α→Value}{r it:Nat}{l done:List (Int×α)}{U:List (Int×α)→List HP}{E:List HP}{w:World}(h:Holds B H w)[m:jz H it kk enc r l done U E]:(l.map Prod.fst).Nodup∧(done.map Prod.fst).Nodup∧∀ p∈done,p∈l:=by
 obtain⟨bn,c,_,_,h3,h4,h5⟩:=m.obj h
 exact⟨h3.keys,h5,h4⟩
theorem io{B:World}{n:Nat}{D:List Deferred}{σ:Env}{H:List HP}{K:Act→World→Prop}{α:Type}{kk:IntKind}{enc:α→Value}{r:Nat}(it:Nat){l done:List (Int×α)}{U:List (Int×α)→List HP}{E:List HP}[m:jz H it kk enc r l done U E](h:(l.map Prod.fst).Nodup→(done.map Prod.fst).Nodup→(∀ p∈done,p∈l)→GO B n D σ H K):GO B n D σ H K:=fun a w st=>by
 obtain⟨h1,h2,h3⟩:=st.holds.iter_w (it:=it)
 exact h h1 h2 h3 a w st
theorem eD(B:World)(Fr:List HP)(b:Nat)(s:Dev):
 ∀ w,Holds B (az b s::Fr) w→Calls Tryz.prog 152 [ptr b].toArray w (Ret B (fun rv H'=>∃ s',okV A6 (s.fence) rv s'∧H'=az b s'::Fr) (fun c H'=>∃ s',BI (s.fence) c s'∧H'=az b s'::Fr)):=by
 refine ap func152 aa ntmps152 aa (jX fun bn bk bq rest l hw=> ?_)
 have hw1:=hw.line
 have hw2:=hw.pos
 have hw3:=hw.le
 refine ac (ab (kPf ox isAgg206 aa aa aa aa ?_))
 refine aS aa (ar call189 aa) (cy (fun Fr=>kY _ Fr _ _)) .free aa aa ?_ ?_
 rotate_left
 ·rintro _ _ ⟨_,⟨ho,rfl,rfl⟩,rfl⟩
  exact a8 fun w hh=>⟨_,⟨s,⟨by simp[Dev.fence,ho],rfl⟩,rfl⟩,db hw hh⟩
 rintro _ _ ⟨_,⟨ho,rfl,rfl⟩,rfl⟩
 refine ad (ac (ac (ab (kPf jY isAgg251 aa aa aa aa (kPb (lH runUnderlying251 aa) aa fun it=>(ad (ao [13,0] rfl (aK (di (ι:=List (Int×List Int)) (fun d=>d.length≤l.length) (fun d=>[(0,ptr b),(13,.pointer (some ⟨it,0,none⟩))]) (fun done=>row b [.pointer (some ⟨s.pa,0,none⟩),.slice (some ⟨bn,0,none⟩) s.n s.n,.slice (some ⟨bk,0,none⟩) s.n (s.n+rest.length),.map (some bq)] 253::row bn (tab s.n fun i=>w64 (s.now i)) 25::row bk (tab s.n (fun i=>w64 (eA s.kept (qof done) i))++rest) 25::fp .i64 qT bq it l done::jr s.pa s.pow.up::Fr) (fun d=>l.length - d.length) [] (Nat.zero_le _) (fun a w st=>st.to ⟨rfl,rfl,trivial⟩ id) ?_)))))))))
 intro done hdone
 refine ac (ab (cP aa (mW aa) .free aa aa ?_))
 rintro _ _ ⟨bb,vs,done',rfl,hvs,rfl,hno,hyes⟩
 refine kPv (aA aa hvs) aa (ad (ac ?_))
 refine ba aa (fun h15=> ?_) (fun h15=> ?_)
 ·obtain⟨pp,hpl,hpn,rfl⟩:=hyes h15
  refine io it fun hl hd hsub=> ?_
  obtain⟨k,f,rfl,hk⟩:=tS hw.rep hl hpl
  refine aq (aK (ac (ab (kPv (lE (p0:=((k:Int),tab 8 f)) (dn:=done) aa) aa (kPv (aA aa aa) aa (kPv (aA aa aa) aa (kPb (aE zeroValue276 aa) aa fun b3=>(kPa aa aa (kPs (ay (vs:=(tab 8 f).map w64) sizeOf276 aa aa (by rw[List.length_map,aX]) (mZ _) (by rw[List.length_map,aX];rfl)) aa (ad (cQ 8 Tryz.mixed (by kernel_rfl) (by kernel_rfl) ?_)))))))))))
  refine kQm aa aa (kQv (aJ aa) aa (kQv (aF (m:=_) lu aa aa) aa (kQv (ai isAgg30 aa aa) aa (kQm aa aa (kQv (oA (c:=((k*8:Nat):Int)) aa aa (by rw[gp (by omega)];omega)) aa (kQv (j4 (m:=k*8) (h:=s.n) runUnderlying30 sizeOf25 aa (.yes aa) .no (by omega) (by omega) (.inl (by omega)) (by omega)) aa (kQv (lW (m:=0) (l:=0) (h:=8) runUnderlying276 sizeOf25 aa .no .no (by omega) (by omega) (.inr aa) (by omega)) aa (bU (cP aa (q7 (n:=8) (cs:=(tab 8 f).map w64) aa runUnderlying30 sizeOf25 aa aa (SlR.row (by rw[kK (by rw[List.length_map,aX];rfl),List.drop_zero,List.take_of_length_le (by rw[List.length_map,aX];omega)]) (by rw[List.length_map,aX])) (by rw[List.length_map,aX];omega) (by rw[List.length_append,aX];omega) (mZ _)) .free aa aa ?_)))))))))
  rintro _ _ ⟨rfl,rfl⟩
  refine ad (ao [13,0] rfl (cB (σ':=[(0,_),(13,_)]) ⟨rfl,rfl,trivial⟩ ?_))
  exact fun a w st=>⟨done++[((k:Int),tab 8 f)],by have:=im hd hsub;simp;omega,by have:=im hd hsub;simp;omega,st.to ⟨rfl,rfl,trivial⟩ (fun hh=>by
   have h:=hh.tail
   rw[List.take_of_length_le (by rw[List.length_map,aX];omega),kZ,tL hk] at h
   have e:(tab s.n fun j=>if k*8≤j∧j<k*8+8 then w64 (f (j - k*8)) else w64 (eA s.kept (qof done) j))=tab s.n fun j=>w64 (eA s.kept (qof (done++[((k:Int),tab 8 f)])) j):=fc fun j _=>by
    rw[um hpn];split<;>rfl
   rw[e] at h
   exact h)⟩
 ·obtain⟨rfl,hall⟩:=hno h15
  refine io it fun hl hd hsub=> ?_
  rw[w8 hw.rep hl hd hsub hall]
  refine aM (fun w hh=>hh.iter_end it) (bD (ab (kPf jY isAgg251 aa aa aa aa (kPs (lI aa runUnderlying251 aa) aa (ad (ao [] rfl ?_))))))
  exact cJ results152 (fun w hh=>by
   refine⟨_,⟨s.up.fe,⟨(),by simp[Dev.fence,ho],rfl⟩,rfl⟩,db (s:=s.up.fe) (bn:=bn) (bk:=bk) (bq:=bq) (rest:=rest) (l:=[]) ⟨hw.line,hw.pos,hw.le,nF _⟩ hh⟩)
theorem wE(B:World)(Fr:List HP)(b:Nat)(s:Dev):
 ∀ w,Holds B (az b s::Fr) w→Calls Tryz.prog 128 [ptr b].toArray w (Ret B (fun rv H'=>∃ bw rest,rv= .slice (some ⟨bw,0,none⟩) s.n (s.n+rest.length)∧H'=row bw (tab s.n (fun i=>w64 (s.now i))++rest) 25::az b s::Fr) (fun _ _=>False)):=by
 refine ap func128 aa ntmps128 aa (jX fun bn bk bq rest l hw=> ?_)
 have hw1:=hw.line
 have hw2:=hw.pos
 have hw3:=hw.le
 refine ac (ab (kPa aa aa (ad (ac (ab (kPf fM isAgg30 aa aa aa aa ?_))))))
 refine aI aa (ar call178 aa) (kQ _ _ _ _ _ (tab s.n fun i=>w64 (s.now i)) (by simp) (by rw[aX];omega) (by simp[tab,aL]) (SlR.row (by first | (rw[List.drop_zero,List.take_of_length_le (by rw[aX];omega)]) | (rw[List.drop_zero,List.take_append_of_le_length (by rw[aX];omega),List.take_of_length_le (by rw[aX];omega)])) (by rw[aX]))) .free aa aa ?_
 rintro _ _ ⟨bw,rest',rfl,rfl⟩
 refine kPa aa aa (ad (aB ?_))
 exact aw results128 aa (fun w hh=>⟨_,⟨bw,rest',rfl,rfl⟩,(db (Fr:=row bw _ _::Fr) hw (hh.back 5 (by simp))).front 1 aa⟩)
theorem vg(B:World)(Fr:List HP)(pa:Nat)(pw:Pow)(sv:Value)(xs:List Int)(hx0:0<xs.length)(hx1:xs.length≤100000)(hr:SlR B Fr sv (xs.map w64)):
 ∀ w,Holds B (jr pa pw::Fr) w→Calls Tryz.prog 126 [ptr pa,sv].toArray w (Ret B (fun rv H'=>∃ b,rv=ptr b∧H'=az b ⟨pa,pw,(xs.length+7) / 8*8,fun i=>xs.getD i 0,fun i=>xs.getD i 0,fun _=>none⟩::Fr) (fun _ _=>False)):=by
 refine ap func126 aa ntmps126 aa ?_
 obtain⟨qa,qc,rfl,hqc⟩:=hr.ex
 rw[List.length_map] at hqc ⊢
 generalize hN:(xs.length+7) / 8*8=N
 rw[List.length_map] at hr
 refine ac (ab (kPa aa aa (ad (ac (ab (kPm aa aa (kPv (bH aa runUnderlying30 ⟨_,rfl⟩ rfl) aa (kPv (ib (c:=((xs.length+8:Nat):Int)) aa aa (by rw[gp (by omega)];omega)) aa (kPv (oz (c:=((xs.length+7:Nat):Int)) aa aa (by rw[gp (by omega)];omega)) aa (kPv (lX aa aa (by decide) (BA (by omega))) aa (kPv (oA (c:=(N:Int)) aa aa (by rw[gp (by omega)];omega)) aa ?_)))))))))))
 refine kPa aa aa (ad (ac (ab (kPm aa aa (kPb (mX runUnderlying30 ik sizeOf25 zeroValue25 aa aa aa (by omega)) aa fun bn=>(kPa aa aa (ad (ao [6,4,0,1] rfl (ac (ab (kPm aa aa ?_)))))))))))
 refine kPm aa aa (cP aa (q7 (n:=xs.length) (cs:=xs.map w64) aa runUnderlying30 sizeOf25 aa aa ((hr.cons _).cons _) (by rw[List.length_map];omega) (by simp;omega) (mZ _)) .free aa aa ?_)
 rintro _ _ ⟨rfl,rfl⟩
 rw[List.take_of_length_le (by simp),wG (by omega)]
 refine ad (ac (ab (kPm aa aa (kPm aa aa (kPm aa aa (aI aa (ar call178 aa) (kQ _ _ _ _ _ (tab N fun i=>w64 (xs.getD i 0)) (by simp) (by rw[aX];omega) (by simp[tab,aL]) (SlR.row (by rw[List.drop_zero,List.take_of_length_le (by rw[aX];omega)]) (by rw[aX]))) .free aa aa ?_))))))
 rintro _ _ ⟨bk,rest',rfl,rfl⟩
 refine kPb (dP .i64 qT) aa fun bq=> ?_
 refine aj aa (aP aa (mE _ _ _ _ (by first | rfl | assumption) (by first | rfl | assumption) (by first | rfl | assumption) (by first | rfl | assumption))) .free rfl rfl ?_;refine kPb (aY aa) aa fun b24=> ?_;refine kPa aa aa ?_;refine ad ?_;refine ao [4] rfl ?_;refine aB ?_
 exact aw results126 aa (fun w hh=>⟨_,⟨_,rfl,rfl⟩,db (s:=⟨pa,pw,N,fun i=>xs.getD i 0,fun i=>xs.getD i 0,fun _=>none⟩) (rest:=rest') (l:=[]) ⟨by simp only;omega,by simp only;omega,by simp only;omega,nF _⟩ ((((hh.front 1 aa).front 2 aa).front 3 aa).front 3 aa)⟩)
def cgo(s:Dev)(c:Nat→Int)(i:Nat)(j:Nat):Value:=w64 (if j<i then (s.crash c).kept j else s.kept j)
theorem gy{s:Dev}{c:Nat→Int}{i:Nat}(h:(s.crash c).kept i=s.kept i):cgo s c (i+1)=cgo s c i:=by
 funext j
 simp only[cgo]
 by_cases e:j=i
 ·subst e;simp[h]
 ·by_cases e2:j<i
  ·rw[if_pos e2,if_pos (by omega)]
  ·rw[if_neg e2,if_neg (by omega)]
theorem ir{s:Dev}{c:Nat→Int}{i n:Nat}{rest:List Value}{x:Int}(hi:i<n)(h:(s.crash c).kept i=x):(tab n (cgo s c i)++rest).set (0+(i:Int).toNat) (w64 x)=tab n (cgo s c (i+1))++rest:=by
 rw[Nat.zero_add,Int.toNat_natCast,List.set_append_left _ _ (by rw[aX];exact hi),mI]
 congr 1
 refine fc fun j _=> ?_
 simp only[upd,cgo]
 by_cases e:j=i
 ·subst e;simp[h]
 ·rw[if_neg e]
  by_cases e2:j<i
  ·rw[if_pos e2,if_pos (by omega)]
  ·rw[if_neg e2,if_neg (by omega)]
theorem zz(s:Dev)(c:Nat→Int):cgo s c 0=fun j=>w64 (s.kept j):=by funext j;simp[cgo]
theorem AS(s:Dev)(c:Nat→Int):tab s.n (cgo s c s.n)=tab s.n fun j=>w64 ((s.crash c).kept j):=fc fun j hj=>by simp[cgo,hj]
theorem BM{s:Dev}{l:List (Int×List Int)}(hw:zJ s l)(k:Nat):(Value.tuple #[o8 qT (.agg #[.int .u64 0,.int .u64 0,.int .u64 0,.int .u64 0,.int .u64 0,.int .u64 0,.int .u64 0,.int .u64 0]) (bI l (k:Int)),.bool (bI l (k:Int)).isSome])= .tuple #[qT (tab 8 ((s.q k).getD fun _=>0)),.bool (s.q k).isSome]:=by
 rw[hw.rep.get]
 cases s.q k<;>rfl
structure A4(B:World)(Fr:List HP)(g:FuncId)(cap:List Value)(n:Nat)(c:Nat→Int):Prop where
 enter:∀ args w,(callFunc g args).run Tryz.prog w= .ok (.enter g args) w
 pos:∀ i,0≤c i
 says:∀ (H:List HP) [ju H Fr] (i:Nat),i<n→∀ w,Holds B H w→Calls Tryz.prog g ([]++[i64 i]++cap).toArray w (aZ B H (.int .u8 (c i)))
theorem wH(B:World)(Fr:List HP)(b:Nat)(s:Dev)(g:FuncId)(cap:List Value)(c:Nat→Int)(hg:A4 B Fr g cap s.n c):
 ∀ w,Holds B (az b s::Fr) w→Calls Tryz.prog 248 [ptr b,.func (.func g) [].toArray cap.toArray].toArray w (Ret B (fun _ H'=>H'=az b (s.crash c)::Fr) (fun _ _=>False)):=by
 refine ap func248 aa ntmps248 aa (jX fun bn bk bq rest l hw=> ?_)
 have hw1:=hw.line
 have hw2:=hw.pos
 have hw3:=hw.le
 refine ac (ac (ab (kPf fM isAgg30 aa aa aa aa (kPv (bH aa runUnderlying30 ⟨_,rfl⟩ rfl) aa (kPm aa aa (ad (aK ?_)))))))
 rw[←zz s c]
 refine di (ι:=Nat) (fun i=>i≤s.n) (fun i=>[(0,ptr b),(1,.func (.func g) [].toArray cap.toArray),(11,i64 s.n),(12,i64 i)]) (fun i=>row b [.pointer (some ⟨s.pa,0,none⟩),.slice (some ⟨bn,0,none⟩) s.n s.n,.slice (some ⟨bk,0,none⟩) s.n (s.n+rest.length),.map (some bq)] 253::row bn (tab s.n fun i=>w64 (s.now i)) 25::row bk (tab s.n (cgo s c (i))++rest) 25::bi .i64 qT bq l::jr s.pa s.pow::Fr) (fun i=>s.n - i) 0 (Nat.zero_le _) (fun a w st=>st.to ⟨rfl,rfl,rfl,rfl,trivial⟩ id) ?_
 intro i hi
 refine ac (ab (kPv (am aa aa aa) aa (ad (ac ?_))))
 refine ba aa (fun h13=> ?_) (fun h13=> ?_)
 ·have hin:i<s.n:=by simpa using h13
  refine aq (ac (aK (ac (ab (kPm aa aa (kPa aa aa (ad (ac (ab (kPf jY isAgg251 aa aa aa aa (kPm aa aa ?_)))))))))))
  refine kPv (lX aa aa (by decide) (BA (by omega))) aa (kPv ((eZ runUnderlying251 runUnderlying3 zeroValue276 aa aa).eq (BM hw (i / 8))) aa (kPm aa aa (kPv (aA aa aa) aa (kPv (aA aa aa) aa (kPb (aE zeroValue276 aa) aa fun b5=>(kPs (ay (vs:=(tab 8 ((s.q (i / 8)).getD fun _=>0)).map w64) sizeOf276 aa aa (by rw[List.length_map,aX]) (mZ _) (by rw[List.length_map,aX];rfl)) aa (kPa aa aa (ad (ao [6,5,4,12,11,0,1] rfl (ac (ab ?_)))))))))))
  refine kPm aa aa (kPm aa aa ?_)
  refine ax aa (ky hg.enter aa aa) (hg.says _ i hin) .free aa aa ?_
  refine kPv (fP (c:=c i%3) aa aa (by decide) (Int.tmod_eq_emod_of_nonneg (hg.pos i))) aa (ad (aK (ac (ab (kPv (am aa aa aa) aa (kPa aa aa (ad ?_)))))))
  refine ba aa (fun h29=> ?_) (fun h29=> ?_)
  ·try simp only[decide_eq_true_eq,decide_eq_false_iff_not,Bool.not_eq_true',Bool.not_eq_false',Bool.or_eq_true,Bool.and_eq_true,Bool.and_eq_false_iff,Bool.or_eq_false_iff,beq_iff_eq,bne_iff_ne,beq_eq_false_iff_ne,bne_eq_false_iff_eq,ge_iff_le,gt_iff_lt,ne_eq] at h29
   refine ac (ab (kPm aa aa (ad (ao [31,5,4,12,11,0,1] rfl ?_))))
   refine ba aa (fun h31=> ?_) (fun h31=> ?_)
   ·try simp only[decide_eq_true_eq,decide_eq_false_iff_not,Bool.not_eq_true',Bool.not_eq_false',Bool.or_eq_true,Bool.and_eq_true,Bool.and_eq_false_iff,Bool.or_eq_false_iff,beq_iff_eq,bne_iff_ne,beq_eq_false_iff_ne,bne_eq_false_iff_eq,ge_iff_le,gt_iff_lt,ne_eq] at h31
    refine cQ 10 Tryz.mixed (by kernel_rfl) (by kernel_rfl) ?_
    refine kQm aa aa (kQv (aJ aa) aa (kQv (aF (m:=_) lu aa aa) aa (kQv (ai isAgg30 aa aa) aa (kQm aa aa (kQm aa aa (kQv (fP aa aa (by decide) CY) aa (kQv (lY (m:=i%8) runUnderlying276 sizeOf25 aa aa (by omega) (by omega) (by omega)) aa (kQv (ai (v:=w64 (((s.q (i / 8)).getD fun _=>0) (i%8))) isAgg25 aa (by rw[kK (by rw[List.length_map,aX];rfl),kZ,dK (by omega)])) aa (kQv (cA runUnderlying30 sizeOf25 aa aa (by omega) (by omega)) aa (bU (kPs (aO sizeOf25 aa aa aa (by rw[Nat.blt_eq,List.length_append,aX];omega)) aa ?_)))))))))))
    refine ad (ao [12,11,0,1] rfl (ab (kPv (aN aa aa) aa (kPm aa aa (ad ?_)))))
    first
     | exact fun a w st=>⟨i+1,by omega,by omega,st.to ⟨rfl,rfl,rfl,rfl,trivial⟩ (fun hh=>by
      have h:=hh.tail
      rw[ir hin (by(try simp only[beq_iff_eq] at h29);simp only[Dev.crash];rw[if_pos h29];unfold eA;cases hq:s.q (i / 8) with | none=>simp[hq] at h31 | some f=>rfl)] at h
      exact h)⟩
     | exact fun a w st=>⟨i+1,by omega,by omega,st.to ⟨rfl,rfl,rfl,rfl,trivial⟩ (fun hh=>by
      have h:=hh.tail
      rw[ir hin (by(try simp only[beq_eq_false_iff_ne,beq_iff_eq] at h29 h42);simp only[Dev.crash];rw[if_neg h29,if_pos h42])] at h
      exact h)⟩
     | exact fun a w st=>⟨i+1,by omega,by omega,st.to ⟨rfl,rfl,rfl,rfl,trivial⟩ (fun hh=>by
      have h:=hh.tail
      rw[←gy (by(try simp only[beq_iff_eq] at h29);simp only[Dev.crash];rw[if_pos h29];unfold eA;cases hq:s.q (i / 8) with | some f=>simp[hq] at h31 | none=>rfl)] at h
      exact h)⟩
     | exact fun a w st=>⟨i+1,by omega,by omega,st.to ⟨rfl,rfl,rfl,rfl,trivial⟩ (fun hh=>by
      have h:=hh.tail
      rw[←gy (by(try simp only[beq_eq_false_iff_ne] at h29 h42);simp only[Dev.crash];rw[if_neg h29,if_neg h42])] at h
      exact h)⟩
   ·try simp only[decide_eq_true_eq,decide_eq_false_iff_not,Bool.not_eq_true',Bool.not_eq_false',Bool.or_eq_true,Bool.and_eq_true,Bool.and_eq_false_iff,Bool.or_eq_false_iff,beq_iff_eq,bne_iff_ne,beq_eq_false_iff_ne,bne_eq_false_iff_eq,ge_iff_le,gt_iff_lt,ne_eq] at h31
    refine aq (ab (kPv (aN aa aa) aa (kPm aa aa (ad ?_))))
    first
     | exact fun a w st=>⟨i+1,by omega,by omega,st.to ⟨rfl,rfl,rfl,rfl,trivial⟩ (fun hh=>by
      have h:=hh.tail
      rw[ir hin (by(try simp only[beq_iff_eq] at h29);simp only[Dev.crash];rw[if_pos h29];unfold eA;cases hq:s.q (i / 8) with | none=>simp[hq] at h31 | some f=>rfl)] at h
      exact h)⟩
     | exact fun a w st=>⟨i+1,by omega,by omega,st.to ⟨rfl,rfl,rfl,rfl,trivial⟩ (fun hh=>by
      have h:=hh.tail
      rw[ir hin (by(try simp only[beq_eq_false_iff_ne,beq_iff_eq] at h29 h42);simp only[Dev.crash];rw[if_neg h29,if_pos h42])] at h
      exact h)⟩
     | exact fun a w st=>⟨i+1,by omega,by omega,st.to ⟨rfl,rfl,rfl,rfl,trivial⟩ (fun hh=>by
      have h:=hh.tail
      rw[←gy (by(try simp only[beq_iff_eq] at h29);simp only[Dev.crash];rw[if_pos h29];unfold eA;cases hq:s.q (i / 8) with | some f=>simp[hq] at h31 | none=>rfl)] at h
      exact h)⟩
     | exact fun a w st=>⟨i+1,by omega,by omega,st.to ⟨rfl,rfl,rfl,rfl,trivial⟩ (fun hh=>by
      have h:=hh.tail
      rw[←gy (by(try simp only[beq_eq_false_iff_ne] at h29 h42);simp only[Dev.crash];rw[if_neg h29,if_neg h42])] at h
      exact h)⟩
  ·try simp only[decide_eq_true_eq,decide_eq_false_iff_not,Bool.not_eq_true',Bool.not_eq_false',Bool.or_eq_true,Bool.and_eq_true,Bool.and_eq_false_iff,Bool.or_eq_false_iff,beq_iff_eq,bne_iff_ne,beq_eq_false_iff_ne,bne_eq_false_iff_eq,ge_iff_le,gt_iff_lt,ne_eq] at h29
   refine ac (ab (kPv (am aa aa aa) aa (kPa aa aa (ad (ao [42,4,12,11,0,1] rfl ?_)))))
   refine ba aa (fun h42=> ?_) (fun h42=> ?_)
   ·try simp only[decide_eq_true_eq,decide_eq_false_iff_not,Bool.not_eq_true',Bool.not_eq_false',Bool.or_eq_true,Bool.and_eq_true,Bool.and_eq_false_iff,Bool.or_eq_false_iff,beq_iff_eq,bne_iff_ne,beq_eq_false_iff_ne,bne_eq_false_iff_eq,ge_iff_le,gt_iff_lt,ne_eq] at h42
    refine cQ 13 Tryz.mixed (by kernel_rfl) (by kernel_rfl) ?_
    refine kQm aa aa (kQv (aJ aa) aa (kQv (aF (m:=_) lu aa aa) aa (kQv (ai isAgg30 aa aa) aa (kQm aa aa (kQm aa aa (kQv (aJ aa) aa (kQv (aF (m:=_) fM aa aa) aa (kQv (ai isAgg30 aa aa) aa (kQm aa aa (kQv (cA runUnderlying30 sizeOf25 aa aa (by omega) (by omega)) aa (kQv (ai (v:=w64 (s.now i)) isAgg25 aa (by rw[Nat.zero_add];exact dK (by omega))) aa ?_)))))))))))
    refine kQv (cA runUnderlying30 sizeOf25 aa aa (by omega) (by omega)) aa (bU (kPs (aO sizeOf25 aa aa aa (by rw[Nat.blt_eq,List.length_append,aX];omega)) aa (ad (ao [12,11,0,1] rfl (ab (kPv (aN aa aa) aa (kPm aa aa (ad ?_))))))))
    first
     | exact fun a w st=>⟨i+1,by omega,by omega,st.to ⟨rfl,rfl,rfl,rfl,trivial⟩ (fun hh=>by
      have h:=hh.tail
      rw[ir hin (by(try simp only[beq_iff_eq] at h29);simp only[Dev.crash];rw[if_pos h29];unfold eA;cases hq:s.q (i / 8) with | none=>simp[hq] at h31 | some f=>rfl)] at h
      exact h)⟩
     | exact fun a w st=>⟨i+1,by omega,by omega,st.to ⟨rfl,rfl,rfl,rfl,trivial⟩ (fun hh=>by
      have h:=hh.tail
      rw[ir hin (by(try simp only[beq_eq_false_iff_ne,beq_iff_eq] at h29 h42);simp only[Dev.crash];rw[if_neg h29,if_pos h42])] at h
      exact h)⟩
     | exact fun a w st=>⟨i+1,by omega,by omega,st.to ⟨rfl,rfl,rfl,rfl,trivial⟩ (fun hh=>by
      have h:=hh.tail
      rw[←gy (by(try simp only[beq_iff_eq] at h29);simp only[Dev.crash];rw[if_pos h29];unfold eA;cases hq:s.q (i / 8) with | some f=>simp[hq] at h31 | none=>rfl)] at h
      exact h)⟩
     | exact fun a w st=>⟨i+1,by omega,by omega,st.to ⟨rfl,rfl,rfl,rfl,trivial⟩ (fun hh=>by
      have h:=hh.tail
      rw[←gy (by(try simp only[beq_eq_false_iff_ne] at h29 h42);simp only[Dev.crash];rw[if_neg h29,if_neg h42])] at h
      exact h)⟩
   ·try simp only[decide_eq_true_eq,decide_eq_false_iff_not,Bool.not_eq_true',Bool.not_eq_false',Bool.or_eq_true,Bool.and_eq_true,Bool.and_eq_false_iff,Bool.or_eq_false_iff,beq_iff_eq,bne_iff_ne,beq_eq_false_iff_ne,bne_eq_false_iff_eq,ge_iff_le,gt_iff_lt,ne_eq] at h42
    refine aq (ab (kPv (aN aa aa) aa (kPm aa aa (ad ?_))))
    first
     | exact fun a w st=>⟨i+1,by omega,by omega,st.to ⟨rfl,rfl,rfl,rfl,trivial⟩ (fun hh=>by
      have h:=hh.tail
      rw[ir hin (by(try simp only[beq_iff_eq] at h29);simp only[Dev.crash];rw[if_pos h29];unfold eA;cases hq:s.q (i / 8) with | none=>simp[hq] at h31 | some f=>rfl)] at h
      exact h)⟩
     | exact fun a w st=>⟨i+1,by omega,by omega,st.to ⟨rfl,rfl,rfl,rfl,trivial⟩ (fun hh=>by
      have h:=hh.tail
      rw[ir hin (by(try simp only[beq_eq_false_iff_ne,beq_iff_eq] at h29 h42);simp only[Dev.crash];rw[if_neg h29,if_pos h42])] at h
      exact h)⟩
     | exact fun a w st=>⟨i+1,by omega,by omega,st.to ⟨rfl,rfl,rfl,rfl,trivial⟩ (fun hh=>by
      have h:=hh.tail
      rw[←gy (by(try simp only[beq_iff_eq] at h29);simp only[Dev.crash];rw[if_pos h29];unfold eA;cases hq:s.q (i / 8) with | some f=>simp[hq] at h31 | none=>rfl)] at h
      exact h)⟩
     | exact fun a w st=>⟨i+1,by omega,by omega,st.to ⟨rfl,rfl,rfl,rfl,trivial⟩ (fun hh=>by
      have h:=hh.tail
      rw[←gy (by(try simp only[beq_eq_false_iff_ne] at h29 h42);simp only[Dev.crash];rw[if_neg h29,if_neg h42])] at h
      exact h)⟩
 ·have hin:¬ i<s.n:=by simpa using h13
  obtain rfl:i=s.n:=by omega
  refine bD (ac (ab (kPf jY isAgg251 aa aa aa aa (kPs (lI aa runUnderlying251 aa) aa (ad (ao [0] rfl (cQ 8 Tryz.mixed (by kernel_rfl) (by kernel_rfl) ?_)))))))
  refine kQm aa aa (kQv (aJ aa) aa (kQv (aF (m:=_) fM aa aa) aa (kQv (ai isAgg30 aa aa) aa (kQm aa aa (kQv (aJ aa) aa (kQv (aF (m:=_) lu aa aa) aa (kQv (ai isAgg30 aa aa) aa (bU (cP aa (q7 (n:=s.n) (cs:=tab s.n (cgo s c s.n)) aa runUnderlying30 sizeOf25 aa aa (SlR.row (by rw[List.drop_zero,List.take_append_of_le_length (by rw[aX];omega),List.take_of_length_le (by rw[aX];omega)]) (by rw[aX])) (by rw[aX];omega) (by rw[aX];omega) (by simp[tab,aL,cgo])) .free aa aa ?_)))))))))
  rintro _ _ ⟨rfl,rfl⟩
  refine ad (ao [] rfl ?_)
  exact cJ results248 (fun w hh=>by
   rw[List.take_of_length_le (by rw[aX];omega),kK (by rw[aX,aX]),AS] at hh
   exact⟨_,rfl,db (s:=s.crash c) (bn:=bn) (bk:=bk) (bq:=bq) (rest:=rest) (l:=[]) ⟨hw.line,hw.pos,hw.le,nF _⟩ hh⟩)
structure Cfg where
 log:Int
 roots:Int
 space:Int
structure bj(c:Cfg):Prop where
 r1:1≤c.roots
 r2:c.roots≤16
 l1:c.roots+2≤c.log
 l2:c.log≤200
 s1:8≤c.space
 s2:c.space≤4096
def gU(n:Int):Int:=(n+7) / 8*8
def Cfg.record(_:Cfg)(i:Int):Int:=16+4*i
def Cfg.active(c:Cfg):Int:=gU (c.record c.log)
def Cfg.root(c:Cfg)(i:Int):Int:=c.active+2+i
def Cfg.frm(c:Cfg)(s:Int):Int:=gU (c.root c.roots)+s*gU c.space
def Cfg.words(c:Cfg):Int:=c.frm 2
abbrev dQ(c:Cfg):Value:= .agg #[i64 c.log,i64 c.roots,i64 c.space]
theorem Bz{n:Int}(h:0≤n)(h2:n≤1000000000):IntKind.i64.wrap (n.tdiv 8)=n / 8:=by
 rw[Int.tdiv_eq_ediv_of_nonneg h,gp (by omega)]
theorem fL{n:Int}(h:0≤n):n≤gU n∧gU n≤n+7∧gU n%8=0:=by unfold gU;omega
theorem bj.act{c:Cfg}(h:bj c):16+4*c.log≤c.active∧c.active≤16+4*c.log+7∧c.active%8=0:=by
 have:=h.r1;have:=h.l1
 exact fL (n:=16+4*c.log) (by omega)
theorem nY(B:World)(H:List HP)(n:Int)(h:0≤n)(h2:n≤100000000):
 ∀ w,Holds B H w→Calls Tryz.prog 174 [i64 n].toArray w (aZ B H (i64 (gU n))):=by
 refine ap func174 aa ntmps174 aa (ac (ab (kPa aa aa (ad (ac (ab (kPm aa aa (kPv (aN aa aa) aa (kPv (oz (c:=n+7) aa aa (by rw[gp (by omega)];omega)) aa (kPv (lX aa aa (by decide) (Bz (by omega) (by omega))) aa (kPv (mS aa aa) aa ?_)))))))))))
 refine kPa aa aa (ad (aB ?_))
 exact aw results174 aa (fun w hw=>⟨rfl,hw⟩)
theorem gb(B:World)(H:List HP)(c:Cfg)(i:Int)(h:0≤i)(h2:i≤100000):
 ∀ w,Holds B H w→Calls Tryz.prog 176 [dQ c,i64 i].toArray w (aZ B H (i64 (c.record i))):=by
 refine ap func176 aa ntmps176 aa (ac (ab (kPb (aY aa) aa fun b2=>(kPa aa aa (ad (ac (ab (kPm aa aa (kPv (mS aa aa) aa (kPv (aN aa aa) aa (kPa aa aa ?_)))))))))))
 refine ad (aB ?_)
 exact aw results176 aa (fun w hw=>⟨rfl,hw.tail⟩)
theorem fA(B:World)(H:List HP)(c:Cfg)(hc:bj c):
 ∀ w,Holds B H w→Calls Tryz.prog 142 [dQ c].toArray w (aZ B H (i64 c.active)):=by
 refine ap func142 aa ntmps142 aa ?_
 have hc1:=hc.r1
 have hc2:=hc.r2
 have hc3:=hc.l1
 have hc4:=hc.l2
 have hc5:=hc.s1
 have hc6:=hc.s2
 refine ac (ab (kPb (aY aa) aa fun b1=>(kPa aa aa (ad (ac (ab (kPv (ah isAgg134 sizeOf134 aa aa) aa ?_)))))))
 refine kPl hZ isAgg3 aa aa aa aa (ax aa (ar call176 aa) (gb _ _ c _ (by omega) (by omega)) .free aa aa ?_)
 refine ax aa (ar call174 aa) (nY _ _ _ (by simp only[Cfg.record];omega) (by simp only[Cfg.record];omega)) .free aa aa ?_
 refine kPa aa aa (ad (ao [2] rfl (aB ?_)))
 exact aw results142 aa (fun w hw=>⟨rfl,hw.tail⟩)
theorem lh(B:World)(H:List HP)(c:Cfg)(hc:bj c)(i:Int)(h:0≤i)(h2:i≤100000):
 ∀ w,Holds B H w→Calls Tryz.prog 171 [dQ c,i64 i].toArray w (aZ B H (i64 (c.root i))):=by
 refine ap func171 aa ntmps171 aa ?_
 have hc1:=hc.r1
 have hc2:=hc.r2
 have hc3:=hc.l1
 have hc4:=hc.l2
 have hc5:=hc.s1
 have hc6:=hc.s2
 have ha:=hc.act
 refine ac (ab (kPb (aY aa) aa fun b2=>(kPa aa aa (ad (ac (ab (kPv (ah isAgg134 sizeOf134 aa aa) aa ?_)))))))
 refine ax aa (ar call142 aa) (fA _ _ c hc) .free aa aa ?_
 refine kPv (aN aa aa) aa (kPm aa aa (kPv (aN aa aa) aa (kPa aa aa (ad (ao [4] rfl (aB ?_))))))
 exact aw results171 aa (fun w hw=>⟨rfl,hw.tail⟩)
theorem jk(B:World)(H:List HP)(c:Cfg)(hc:bj c)(i:Int)(h:0≤i)(h2:i≤2):
 ∀ w,Holds B H w→Calls Tryz.prog 119 [dQ c,i64 i].toArray w (aZ B H (i64 (c.frm i))):=by
 refine ap func119 aa ntmps119 aa ?_
 have hc1:=hc.r1
 have hc2:=hc.r2
 have hc3:=hc.l1
 have hc4:=hc.l2
 have hc5:=hc.s1
 have hc6:=hc.s2
 have ha:=hc.act
 have hr:0≤c.root c.roots∧c.root c.roots≤2000:=by simp only[Cfg.root];omega
 have hl:=fL hr.1
 have hs:=fL (n:=c.space) (by omega)
 have hm:0≤i*gU c.space∧i*gU c.space≤2*5000:=⟨Int.mul_nonneg h (by omega),Int.mul_le_mul h2 (by omega) (by omega) (by omega)⟩
 refine ac (ab (kPb (aY aa) aa fun b2=>(kPa aa aa (ad (ac (cL Tryz.mixed (by kernel_rfl) (by kernel_rfl) ?_))))))
 refine kQv (ah isAgg134 sizeOf134 aa aa) aa ?_
 refine kQv (aF (m:=_) fN aa aa) aa (kQv (ai isAgg3 aa aa) aa (bC aa (ar call171 aa) (lh _ _ c hc _ (by omega) (by omega)) .free aa ?_))
 refine bC aa (ar call174 aa) (nY _ _ _ hr.1 (by have:=hr.2;omega)) .free aa ?_
 refine kQm aa aa (kQv (aF (m:=_) eQ aa aa) aa (kQv (ai isAgg3 aa aa) aa (bC aa (ar call174 aa) (nY _ _ _ (by omega) (by omega)) .free aa ?_)))
 refine kQv (mS aa aa) aa (kQv (aN aa aa) aa (kQa aa aa (bU (ao [4] rfl (aB ?_)))))
 exact aw results119 aa (fun w hw=>⟨rfl,hw.tail⟩)
theorem iQ(B:World)(H:List HP)(c:Cfg)(hc:bj c):
 ∀ w,Holds B H w→Calls Tryz.prog 120 [dQ c].toArray w (aZ B H (i64 c.words)):=by
 refine ap func120 aa ntmps120 aa (ac (ab (kPb (aY aa) aa fun b1=>(kPa aa aa (ad (ac (ab (kPv (ah isAgg134 sizeOf134 aa aa) aa ?_))))))))
 refine ax aa (ar call119 aa) (jk _ _ c hc _ (by omega) (by omega)) .free aa aa ?_
 refine kPa aa aa (ad (aB ?_))
 exact aw results120 aa (fun w hw=>⟨rfl,hw.tail⟩)
theorem sU(B:World)(H:List HP)(c:Cfg)(hc:bj c):
 ∀ w,Holds B H w→Calls Tryz.prog 140 [dQ c].toArray w (aZ B H (i64 (c.active+1))):=by
 refine ap func140 aa ntmps140 aa ?_
 have hc1:=hc.r1
 have hc2:=hc.r2
 have hc3:=hc.l1
 have hc4:=hc.l2
 have hc5:=hc.s1
 have hc6:=hc.s2
 have ha:=hc.act
 refine ac (ab (kPb (aY aa) aa fun b1=>(kPa aa aa (ad (ac (ab (kPv (ah isAgg134 sizeOf134 aa aa) aa ?_)))))))
 refine ax aa (ar call142 aa) (fA _ _ c hc) .free aa aa ?_
 refine kPv (aN aa aa) aa (kPa aa aa (ad (aB ?_)))
 exact aw results140 aa (fun w hw=>⟨rfl,hw.tail⟩)
instance (c:Cfg):Decidable (bj c):=decidable_of_iff (1≤c.roots∧c.roots≤16∧c.roots+2≤c.log∧c.log≤200∧8≤c.space∧c.space≤4096) ⟨fun ⟨a,b,c,d,e,f⟩=>⟨a,b,c,d,e,f⟩,fun ⟨a,b,c,d,e,f⟩=>⟨a,b,c,d,e,f⟩⟩
end Go.Proofs.YtoakdoeajpjgkaaGreatDoor
