/- The reference's copy of a system. (Made by tools/gen_V20.py.) -/
import Derived.Test.YtjacjafmimgfcaaGreatWbb
import Derived.Test.YtjacjafmimgfcaaGreatWbc
set_option linter.unusedVariables false
set_option linter.unusedSimpArgs false
namespace Go.Proofs.YtjacjafmimgfcaaGreat
open Go.RowKit
attribute [local go_sem ↓] Go.wp_at_zero Go.wp_at_succ
def EC:Obj:=.cells #[] 130 (0,0)
def ET:Obj:=.cells #[] 118 (0,0)
def EE:Obj:=.cells #[] 68 (0,0)
def EZ:Obj:=.cells #[.slice none 0 0,.slice none 0 0,.int .i64 0,.slice none 0 0] 45 (0,0)
structure J20 (w0:World) (s:Sys) (x8 x11 x12 x15 x3:Value) (b0 c0 b3 b4 b7 b9:Bool) (k0 k4 k7 k9:Nat) (w:World):Prop where
 hc:c0=(b0 && !b3)
 h30:b3=true→b0=true
 e0:b0=true→x8=.slice (some ⟨k0,0,none⟩) 0 0
 e4:b4=true→x12=.slice (some ⟨k4,0,none⟩) 0 0
 e7:b7=true→x15=.slice (some ⟨k7,0,none⟩) 0 0
 e9:b9=true→x3=.pointer (some ⟨k9,0,none⟩)
 m0:Made w0 w c0 k0 EC
 m4:Made w0 w b4 k4 ET
 m7:Made w0 w b7 k7 EE
 m9:Made w0 w b9 k9 EZ
 p04:Apart2 c0 k0 b4 k4
 p07:Apart2 c0 k0 b7 k7
 p09:Apart2 c0 k0 b9 k9
 p47:Apart2 b4 k4 b7 k7
 p49:Apart2 b4 k4 b9 k9
 p79:Apart2 b7 k7 b9 k9
 ho:OwnB kCell 130 w0 w b3 x11 s.cells
 a4:ApartX b3 x11 b4 k4
 a7:ApartX b3 x11 b7 k7
 a9:ApartX b3 x11 b9 k9
 hB:Below w0.heap.size w0 w
def J20s (w0:World) (s:Sys) (A B C:Option Addr) (ca cb cc kb:Nat) (f:Nat) (l:Array Bool) (a:Go.Act) (w:World):Prop :=
 ∃ (x8 x11 x12 x15 x3:Value) (b0 c0 b3 b4 b7 b9:Bool) (k0 k4 k7 k9:Nat) (x16:Value) (b8:Bool),l=#[b0,true,true,b3,b4,true,true,b7,b8,b9,false]∧a=⟨#[.agg #[.slice A s.cells.length ca,.slice B s.tasks.length cb,.int .i64 s.clock,.slice C s.log.length cc],.pointer (some ⟨kb,0,none⟩),.pointer (some ⟨kb+1,0,none⟩),x3,undef,undef,undef,undef,x8,.pointer (some ⟨kb,0,none⟩),.slice A s.cells.length ca,x11,x12,.pointer (some ⟨kb,2,none⟩),.int .i64 s.clock,x15,x16,undef,undef,undef,undef,undef,undef,undef,undef,undef,undef,undef,undef,undef,undef,undef,undef,undef,undef,undef,undef,undef,undef,undef,undef,undef,undef,undef,undef,undef,undef,undef,undef,undef,undef,undef,undef,undef,undef,undef,undef,undef,undef,undef,undef,undef,undef,undef,undef,undef,undef,undef,undef,undef,undef,undef,undef,undef,undef,undef,undef,undef,undef,undef],[]⟩∧f=(bif b0 then 0 else 1)+(bif b3 then 0 else 1)+(bif b4 then 0 else 1)+(bif b7 then 0 else 1)+(bif b9 then 0 else 1)+(bif b8 then 0 else 1)∧(b8=true→b3=true∧b4=true∧b7=true∧x16=.agg #[x11,x12,.int .i64 s.clock,x15])∧J20 w0 s x8 x11 x12 x15 x3 b0 c0 b3 b4 b7 b9 k0 k4 k7 k9 w
theorem Keep.below' {w0 w w':World}{k0:Nat}(hk:Keep (fun k=>k=k0) w w')(hB:Below w0.heap.size w0 w)(h:w0.heap.size≤k0):Below w0.heap.size w0 w' :=
 ⟨hk.os.trans hB.os,hk.tape.trans hB.tape,hk.output.trans hB.output,Nat.le_trans hB.size hk.size,fun k hlt=>(hk.block k (Nat.lt_of_lt_of_le hlt hB.size) (by omega)).trans (hB.block k hlt)⟩
section
variable {w0 w:World}{s:Sys}{x8 x11 x12 x15 x3:Value}{b0 c0 b3 b4 b7 b9:Bool}{k0 k4 k7 k9:Nat}
theorem J20.s0 (h:J20 w0 s x8 x11 x12 x15 x3 false c0 b3 b4 b7 b9 k0 k4 k7 k9 w):J20 w0 s (.slice (some ⟨w.heap.size,0,none⟩) 0 0) x11 x12 x15 x3 true true b3 b4 b7 b9 w.heap.size k4 k7 k9 (w.alloc EC):=by
 have hb3:b3=false:=by cases b3 with
  | false=>rfl
  | true=>exact absurd (h.h30 rfl) (by decide)
 subst hb3
 exact⟨rfl,(fun e=>by cases e),fun _=>rfl,h.e4,h.e7,h.e9,Made.new h.hB _,h.m4.alloc _,h.m7.alloc _,h.m9.alloc _,Apart2.new h.m4,Apart2.new h.m7,Apart2.new h.m9,h.p47,h.p49,h.p79,h.ho.alloc _,h.a4,h.a7,h.a9,h.hB.alloc h.hB.size _⟩
theorem J20.s4 (h:J20 w0 s x8 x11 x12 x15 x3 b0 c0 b3 b4 b7 b9 k0 k4 k7 k9 w):J20 w0 s x8 x11 (.slice (some ⟨w.heap.size,0,none⟩) 0 0) x15 x3 b0 c0 b3 true b7 b9 k0 w.heap.size k7 k9 (w.alloc ET) :=
 ⟨h.hc,h.h30,h.e0,fun _=>rfl,h.e7,h.e9,h.m0.alloc _,Made.new h.hB _,h.m7.alloc _,h.m9.alloc _,(Apart2.new h.m0).symm,h.p07,h.p09,Apart2.new h.m7,Apart2.new h.m9,h.p79,h.ho.alloc _,ApartX.new h.ho,h.a7,h.a9,h.hB.alloc h.hB.size _⟩
theorem J20.s7 (h:J20 w0 s x8 x11 x12 x15 x3 b0 c0 b3 b4 b7 b9 k0 k4 k7 k9 w):J20 w0 s x8 x11 x12 (.slice (some ⟨w.heap.size,0,none⟩) 0 0) x3 b0 c0 b3 b4 true b9 k0 k4 w.heap.size k9 (w.alloc EE) :=
 ⟨h.hc,h.h30,h.e0,h.e4,fun _=>rfl,h.e9,h.m0.alloc _,h.m4.alloc _,Made.new h.hB _,h.m9.alloc _,h.p04,(Apart2.new h.m0).symm,h.p09,(Apart2.new h.m4).symm,h.p49,Apart2.new h.m9,h.ho.alloc _,h.a4,ApartX.new h.ho,h.a9,h.hB.alloc h.hB.size _⟩
theorem J20.s9 (h:J20 w0 s x8 x11 x12 x15 x3 b0 c0 b3 b4 b7 b9 k0 k4 k7 k9 w):J20 w0 s x8 x11 x12 x15 (.pointer (some ⟨w.heap.size,0,none⟩)) b0 c0 b3 b4 b7 true k0 k4 k7 w.heap.size (w.alloc EZ) :=
 ⟨h.hc,h.h30,h.e0,h.e4,h.e7,fun _=>rfl,h.m0.alloc _,h.m4.alloc _,h.m7.alloc _,Made.new h.hB _,h.p04,h.p07,(Apart2.new h.m0).symm,h.p47,(Apart2.new h.m4).symm,(Apart2.new h.m7).symm,h.ho.alloc _,h.a4,h.a7,ApartX.new h.ho,h.hB.alloc h.hB.size _⟩
theorem J20.s3 (h:J20 w0 s x8 x11 x12 x15 x3 true c0 false b4 b7 b9 k0 k4 k7 k9 w){w':World}{v':Value}{S:Nat→Prop}(ho:Own kCell 130 w' w0.heap.size S v' s.cells)(hg:w.grownBy w' (some k0))(hv:v'.ownBlock=some k0∨v'.ownBlock=some w.heap.size):J20 w0 s x8 v' x12 x15 x3 true false true b4 b7 b9 k0 k4 k7 k9 w':=by
 have hc0:c0=true:=h.hc
 subst hc0
 have hk:Keep (fun k=>k=k0) w w':=Keep.of_grown hg fun k e=>(Option.some.inj e).symm
 have hk0:=(h.m0 rfl).1
 have hB:Below w0.heap.size w0 w':=hk.below' h.hB (by omega)
 have ax:∀ {c:Bool} {k:Nat} {o:Obj},Made w0 w c k o→Apart2 true k0 c k→ApartX true v' c k:=fun hm hp _ hc e=>by
  have hl:=(Array.getElem?_eq_some_iff.1 (hm hc).2).1
  rcases hv with e2 | e2
  ·rw [e2] at e;exact hp rfl hc (Option.some.inj e)
  ·rw [e2] at e;have:=Option.some.inj e;omega
 exact⟨rfl,fun _=>rfl,h.e0,h.e4,h.e7,h.e9,Made.none,h.m4.keep hk (fun q=>fun e=>h.p04 rfl q e.symm),h.m7.keep hk (fun q=>fun e=>h.p07 rfl q e.symm),h.m9.keep hk (fun q=>fun e=>h.p09 rfl q e.symm),Apart2.none,Apart2.none,Apart2.none,h.p47,h.p49,h.p79,fun _=>OwnF.of plain_cell ho,ax h.m4 h.p04,ax h.m7 h.p07,ax h.m9 h.p09,hB⟩
end
theorem SysO.far {R:Nat→Role}{w:World}{base:Nat}{vc vt vl:Value}{s:Sys}{ts:List TV}{es:List EV}(h:SysO R w base vc vt vl s ts es){p:Addr}(hp:R p.block=.no)(u:Value):SysO R (w.setCell p u) base vc vt vl s ts es :=
 h.move (fun k hk=>Below.heap_setCell w p u k (fun e=>hk (e ▸ hp))) (by simp)
def L20 (w0:World) (s:Sys) (k9 n q:Nat) (wr:World):Prop :=
 ∃ R vc vt vl ts es,wr.heap[k9]?=some (.cells #[vc,vt,.int .i64 s.clock,vl] 45 (0,0))∧SysO R wr w0.heap.size vc vt vl { s with tasks:=s.tasks.take n,log:=s.log.take q } ts es∧R k9=.no∧w0.heap.size≤k9∧Below w0.heap.size w0 wr
theorem L20.hB {w0:World}{s:Sys}{k9 n q:Nat}{wr:World}(h:L20 w0 s k9 n q wr):Below w0.heap.size w0 wr:=by obtain⟨_,_,_,_,_,_,_,_,_,_,h⟩:=h;exact h
theorem J20.loop {w0 w:World}{s:Sys}{x8:Value}{k0 k4 k7 k9:Nat}{c0:Bool}{A1:Option Addr}{c1:Nat}(h:J20 w0 s x8 (.slice A1 s.cells.length c1) (.slice (some ⟨k4,0,none⟩) 0 0) (.slice (some ⟨k7,0,none⟩) 0 0) (.pointer (some ⟨k9,0,none⟩)) true c0 true true true true k0 k4 k7 k9 w) :
  L20 w0 s k9 0 0 ((((w.setCell ⟨k9,0,none⟩ (.slice A1 s.cells.length c1)).setCell ⟨k9,1,none⟩ (.slice (some ⟨k4,0,none⟩) 0 0)).setCell ⟨k9,2,none⟩ (.int .i64 s.clock)).setCell ⟨k9,3,none⟩ (.slice (some ⟨k7,0,none⟩) 0 0)):=by
 have own0:∀ {k k':Nat},(Value.slice (some ⟨k,0,none⟩) 0 0).ownBlock=some k'→k'=k:=fun e=>by simp [Value.ownBlock] at e;exact e.symm
 obtain⟨R,hS,hR⟩:=SysO.start (clock:=s.clock) (h.ho rfl) (own_nil0 plain_tv (h.m4 rfl).2 (h.m4 rfl).1) (own_nil0 plain_ev (h.m7 rfl).2 (h.m7 rfl).1)
  (fun k e e2=>h.a4 rfl rfl (by rw [own0 e2] at e;exact e)) (fun k e e2=>h.a7 rfl rfl (by rw [own0 e2] at e;exact e)) (fun k e e2=>h.p47 rfl rfl ((own0 e).symm.trans (own0 e2)))
 have h9:R k9=.no:=Classical.byContradiction fun hn=>by
  rcases hR k9 hn with e | e | e
  ·exact h.a9 rfl rfl e
  ·exact h.p49 rfl rfl (own0 e).symm
  ·exact h.p79 rfl rfl (own0 e).symm
 have hk:=(h.m9 rfl).1
 have q:=heap_set_at (i:=3) (heap_set_at (i:=2) (heap_set_at (i:=1) (heap_set_at (i:=0) (h.m9 rfl).2 (.slice A1 s.cells.length c1)) (.slice (some ⟨k4,0,none⟩) 0 0)) (.int .i64 s.clock)) (.slice (some ⟨k7,0,none⟩) 0 0)
 simp only [List.setIfInBounds_toArray,List.set_cons_zero,List.set_cons_succ] at q
 exact⟨R,_,_,_,[],[],q,(((hS.far (p:=⟨k9,0,none⟩) h9 _).far (p:=⟨k9,1,none⟩) h9 _).far (p:=⟨k9,2,none⟩) h9 _).far (p:=⟨k9,3,none⟩) h9 _,h9,hk,(((h.hB.setCell (p:=⟨k9,0,none⟩) hk _).setCell (p:=⟨k9,1,none⟩) hk _).setCell (p:=⟨k9,2,none⟩) hk _).setCell (p:=⟨k9,3,none⟩) hk _⟩
def InW {α:Type} (d:Kd α) (e:TypeId) (w:World) (base lo hi:Nat) (v:Value) (xs:List α):Prop:=OwnF d e w base v xs∧∀ k,v.ownBlock=some k→lo≤k∧k<hi
section
variable {α:Type}{d:Kd α}{e:TypeId}{w w' w1:World}{base lo hi k:Nat}{v:Value}{xs:List α}
theorem InW.set (h:InW d e w base lo hi v xs)(hk:k<lo)(i:Nat)(u:Value):InW d e (w.setCell ⟨k,i,none⟩ u) base lo hi v xs :=
 ⟨h.1.far (p:=⟨k,i,none⟩) (fun q e2=>by have:=h.2 q e2;show q≠k;omega) u,h.2⟩
theorem InW.below (h:InW d e w base lo hi v xs)(hb:Below w.heap.size w w'):InW d e w' base lo hi v xs:=⟨h.1.belowAll hb,h.2⟩
theorem InW.of {S:Nat→Prop}(hp:d.plain)(h:Own d e w' w1.heap.size S v xs)(hb:base≤w1.heap.size):InW d e w' base w1.heap.size w'.heap.size v xs :=
 ⟨(OwnF.of hp h).lower hb,fun k e2=>⟨(Own.blk h k e2).1,(Own.blk h k e2).2.1⟩⟩
theorem InW.of' (h:OwnF d e w' w1.heap.size v xs)(hb:base≤w1.heap.size):InW d e w' base w1.heap.size w'.heap.size v xs:=⟨h.lower hb,fun k e2=>h.blk k e2⟩
theorem InW.apart {α':Type}{d':Kd α'}{e':TypeId}{lo' hi':Nat}{v':Value}{xs':List α'}(h:InW d e w base lo hi v xs)(h':InW d' e' w base lo' hi' v' xs')(hlt:hi≤lo'):∀ k,v.ownBlock=some k→v'.ownBlock≠some k:=fun k e1 e2=>by
 have:=h.2 k e1
 have:=h'.2 k e2
 omega
end
theorem L20.task {w0:World}{s:Sys}{k9 n:Nat}{wr w5 w6:World}{R:Nat→Role}{vc vt vl vt':Value}{ts:List TV}{es:List EV}{y:TV}{l1 l2 l3 l4 l5:Nat}
  (hq:wr.heap[k9]?=some (.cells #[vc,vt,.int .i64 s.clock,vl] 45 (0,0))) (hS:SysO R wr w0.heap.size vc vt vl { s with tasks:=s.tasks.take n,log:=s.log.take 0 } ts es) (hR9:R k9=.no) (hk9:w0.heap.size≤k9) (hBr:Below w0.heap.size w0 wr)
  (hlt:n<s.tasks.length) (hy:y.t=s.tasks[n]) (HB5:Below wr.heap.size wr w5)
  (hr:InW Kd.int 3 w5 w0.heap.size l1 l2 y.r y.t.regs) (ho:InW Kd.int 3 w5 w0.heap.size l2 l3 y.o y.t.old) (hd:InW kPut 127 w5 w0.heap.size l3 l4 y.d y.t.reads) (hu:InW kPut 127 w5 w0.heap.size l4 l5 y.u y.t.puts)
  (hl:wr.heap.size≤l1∧l1≤l2∧l2≤l3∧l3≤l4∧l4≤l5∧l5≤w5.heap.size)
  (ho6:OwnF kTV 118 w6 w0.heap.size vt' (ts ++ [y])) (hk6:Keep (fun k=>vt.ownBlock=some k) w5 w6) (hv6:∀ k,vt'.ownBlock=some k→vt.ownBlock=some k∨w5.heap.size≤k):L20 w0 s k9 (n+1) 0 (w6.setCell ⟨k9,1,none⟩ vt'):=by
 have hk9l:k9<wr.heap.size:=(Array.getElem?_eq_some_iff.1 hq).1
 have hvt:∀ k,vt.ownBlock=some k→k<wr.heap.size∧k≠k9:=fun k e=>⟨(hS.t.blk k e).2,fun e2=>by have:=hS.Rt k e;rw [e2,hR9] at this;cases this⟩
 have hk:Keep (fun k=>vt.ownBlock=some k) wr w6:=(Keep.of_belowAll _ HB5).trans hk6
 have ap:∀ {α:Type} {d:Kd α} {e:TypeId} {lo hi:Nat} {v:Value} {xs:List α},InW d e w5 w0.heap.size lo hi v xs→wr.heap.size≤lo→hi≤w5.heap.size→OwnF d e w6 w0.heap.size v xs∧(∀ k,v.ownBlock=some k→wr.heap.size≤k)∧∀ k,v.ownBlock=some k→vt'.ownBlock≠some k:=fun h h1 h2=>by
  refine⟨h.1.keep hk6 fun k e e2=>?_,fun k e=>?_,fun k e e2=>?_⟩
  ·have:=(h.2 k e).1
   have:=(hvt k e2).1
   omega
  ·have:=(h.2 k e).1
   omega
  ·have h3:=h.2 k e
   rcases hv6 k e2 with e3 | e3
   ·have:=(hvt k e3).1
    omega
   ·omega
 obtain⟨r1,r2,r3⟩:=ap hr (by omega) (by omega)
 obtain⟨o1,o2,o3⟩:=ap ho (by omega) (by omega)
 obtain⟨d1,d2,d3⟩:=ap hd (by omega) (by omega)
 obtain⟨u1,u2,u3⟩:=ap hu (by omega) (by omega)
 obtain⟨R',hS',hR'⟩:=hS.pushT hk ho6 (fun k e=>(hv6 k e).imp id fun h=>Nat.le_trans HB5.size h) r1 o1 d1 u1 r2 o2 d2 u2 r3 o3 d3 u3
  (hr.apart ho (Nat.le_refl _)) (hr.apart hd (by omega)) (hr.apart hu (by omega)) (ho.apart hd (Nat.le_refl _)) (ho.apart hu (by omega)) (hd.apart hu (Nat.le_refl _))
 have hR'9:R' k9=.no:=Classical.byContradiction fun hn=>by
  rcases hR' k9 hn with e | e
  ·exact e hR9
  ·omega
 have q6:=heap_set_at (i:=1) (hk.blk hq (fun e=>(hvt k9 e).2 rfl)) vt'
 simp only [List.setIfInBounds_toArray,List.set_cons_zero,List.set_cons_succ] at q6
 refine⟨R',vc,vt',vl,ts ++ [y],es,q6,?_,hR'9,hk9,?_⟩
 ·have:=hS'.far (p:=⟨k9,1,none⟩) hR'9 vt'
  rw [hy] at this
  rw [List.take_succ_eq_append_getElem hlt]
  exact this
 ·exact(⟨hk.os.trans hBr.os,hk.tape.trans hBr.tape,hk.output.trans hBr.output,Nat.le_trans hBr.size hk.size,fun k hlt=>(hk.block k (Nat.lt_of_lt_of_le hlt hBr.size) (fun e=>by have:=(hS.t.blk k e).1;omega)).trans (hBr.block k hlt)⟩:Below w0.heap.size w0 w6).setCell (p:=⟨k9,1,none⟩) hk9 _
theorem entry_lit {w:World}{S:Nat→Prop}{A:Option Addr}{xs:List Entry}{j:Nat}(h:Row kEntry w S A xs)(hj:j<xs.length):∃ b o Ad Au cd cu,A=some ⟨b,o,none⟩∧b<w.heap.size∧EntryRows w S xs[j] Ad Au cd cu ∧
  EntryAt w ⟨b,o+j*6,none⟩ xs[j] (.slice Ad xs[j].reads.length cd) (.slice Au xs[j].puts.length cu):=by
 obtain⟨b,o,rfl,_,hl⟩:=h.lit (by decide) (by omega)
 obtain⟨ad,Ad,Au,cd,cu,e,_,hr,hat⟩:=at_entry h hj
 injection e with e
 subst e
 rw [add_lit] at hat
 exact⟨b,o,Ad,Au,cd,cu,rfl,hl,hr,hat⟩
theorem block6 {w:World}{B:Nat}{v0 v1 v2 v3 v4 v5:Value}{T:TypeId}(h:w.heap[B]?=some (.cells #[v0,v1,v2,v3,v4,v5] T (0,0))):w.cell? ⟨B,0,none⟩=some v0∧w.cell? ⟨B,1,none⟩=some v1∧w.cell? ⟨B,2,none⟩=some v2∧w.cell? ⟨B,3,none⟩=some v3∧w.cell? ⟨B,4,none⟩=some v4∧w.cell? ⟨B,5,none⟩=some v5 :=
 ⟨cell_of_row w B 0 _ T _ h,cell_of_row w B 1 _ T _ h,cell_of_row w B 2 _ T _ h,cell_of_row w B 3 _ T _ h,cell_of_row w B 4 _ T _ h,cell_of_row w B 5 _ T _ h⟩
theorem L20.entry {w0:World}{s:Sys}{k9 n q:Nat}{wr w5 w6:World}{R:Nat→Role}{vc vt vl vl' d u:Value}{ts:List TV}{es:List EV}{l1 l2 l3:Nat}
  (hq:wr.heap[k9]?=some (.cells #[vc,vt,.int .i64 s.clock,vl] 45 (0,0))) (hS:SysO R wr w0.heap.size vc vt vl { s with tasks:=s.tasks.take n,log:=s.log.take q } ts es) (hR9:R k9=.no) (hk9:w0.heap.size≤k9) (hBr:Below w0.heap.size w0 wr)
  (hlt:q<s.log.length) (HB5:Below wr.heap.size wr w5)
  (hd:InW kPut 127 w5 w0.heap.size l1 l2 d (s.log[q]).reads) (hu:InW kPut 127 w5 w0.heap.size l2 l3 u (s.log[q]).puts)
  (hl:wr.heap.size≤l1∧l1≤l2∧l2≤l3∧l3≤w5.heap.size)
  (ho6:OwnF kEV 68 w6 w0.heap.size vl' (es ++ [⟨s.log[q],d,u⟩])) (hk6:Keep (fun k=>vl.ownBlock=some k) w5 w6) (hv6:∀ k,vl'.ownBlock=some k→vl.ownBlock=some k∨w5.heap.size≤k):L20 w0 s k9 n (q+1) (w6.setCell ⟨k9,3,none⟩ vl'):=by
 have hk9l:k9<wr.heap.size:=(Array.getElem?_eq_some_iff.1 hq).1
 have hvt:∀ k,vl.ownBlock=some k→k<wr.heap.size∧k≠k9:=fun k e=>⟨(hS.l.blk k e).2,fun e2=>by have:=hS.Rl k e;rw [e2,hR9] at this;cases this⟩
 have hk:Keep (fun k=>vl.ownBlock=some k) wr w6:=(Keep.of_belowAll _ HB5).trans hk6
 have ap:∀ {α:Type} {d:Kd α} {e:TypeId} {lo hi:Nat} {v:Value} {xs:List α},InW d e w5 w0.heap.size lo hi v xs→wr.heap.size≤lo→hi≤w5.heap.size→OwnF d e w6 w0.heap.size v xs∧(∀ k,v.ownBlock=some k→wr.heap.size≤k)∧∀ k,v.ownBlock=some k→vl'.ownBlock≠some k:=fun h h1 h2=>by
  refine⟨h.1.keep hk6 fun k e e2=>?_,fun k e=>?_,fun k e e2=>?_⟩
  ·have:=(h.2 k e).1
   have:=(hvt k e2).1
   omega
  ·have:=(h.2 k e).1
   omega
  ·have h3:=h.2 k e
   rcases hv6 k e2 with e3 | e3
   ·have:=(hvt k e3).1
    omega
   ·omega
 obtain⟨d1,d2,d3⟩:=ap hd (by omega) (by omega)
 obtain⟨u1,u2,u3⟩:=ap hu (by omega) (by omega)
 obtain⟨R',hS',hR'⟩:=hS.pushE hk ho6 (fun k e=>(hv6 k e).imp id fun h=>Nat.le_trans HB5.size h) d1 u1 d2 u2 (hd.apart hu (Nat.le_refl _)) d3 u3
 have hR'9:R' k9=.no:=Classical.byContradiction fun hn=>by
  rcases hR' k9 hn with e | e
  ·exact e hR9
  ·omega
 have q6:=heap_set_at (i:=3) (hk.blk hq (fun e=>(hvt k9 e).2 rfl)) vl'
 simp only [List.setIfInBounds_toArray,List.set_cons_zero,List.set_cons_succ] at q6
 refine⟨R',vc,vt,vl',ts,es ++ [⟨s.log[q],d,u⟩],q6,?_,hR'9,hk9,?_⟩
 ·have:=hS'.far (p:=⟨k9,3,none⟩) hR'9 vl'
  rw [List.take_succ_eq_append_getElem hlt]
  exact this
 ·exact(⟨hk.os.trans hBr.os,hk.tape.trans hBr.tape,hk.output.trans hBr.output,Nat.le_trans hBr.size hk.size,fun k hlt=>(hk.block k (Nat.lt_of_lt_of_le hlt hBr.size) (fun e=>by have:=(hS.l.blk k e).1;omega)).trans (hBr.block k hlt)⟩:Below w0.heap.size w0 w6).setCell (p:=⟨k9,3,none⟩) hk9 _
theorem infoCell:(Tryz.prog.info? 130).map (fun i=>(i.zero,i.size,i.bytes))=some (some (.agg #[.int .i64 0,.int .i64 0,.int .i64 0]),3,24):=by kernel_rfl
set_option maxHeartbeats 4000000 in
set_option maxRecDepth 100000 in
theorem l11Copy_calls (s:Sys)(A B C:Option Addr)(ca cb cc:Nat)(w:World)(S:Nat→Prop)(hR:SysR w S s A B C)(hSS:∀ k,S k→k<w.heap.size)(hc:s.cells.length≤1000000)(ht:s.tasks.length≤1000000)(hl:s.log.length≤1000000)
  (hT:∀ k (hk:k<s.tasks.length),(s.tasks[k]).regs.length≤1000000∧(s.tasks[k]).old.length≤1000000∧(s.tasks[k]).reads.length≤1000000∧(s.tasks[k]).puts.length≤1000000) (hE:∀ k (hk:k<s.log.length),(s.log[k]).reads.length≤1000000∧(s.log[k]).puts.length≤1000000) :
  Calls Tryz.prog 103 #[.agg #[.slice A s.cells.length ca,.slice B s.tasks.length cb,.int .i64 s.clock,.slice C s.log.length cc]] w fun e w'=>∃ R vc vt vl ts es,e=.returned (.agg #[vc,vt,.int .i64 s.clock,vl])∧SysO R w' w.heap.size vc vt vl s ts es∧Below w.heap.size w w':=by
 have HR:=Lib.hid hR
 clear hR
 go_enter Tryz.func103,Tryz.ntmps103
 go_wp2_with fail
 obtain⟨W,HW⟩:∃ W,W=(w.alloc (.cells #[.slice A s.cells.length ca,.slice B s.tasks.length cb,.int .i64 s.clock,.slice C s.log.length cc] 45)).alloc (.cells #[.slice none 0 0,.slice none 0 0,.int .i64 0,.slice none 0 0] 45):=⟨_,rfl⟩
 rw [← HW]
 have hbW:Below w.heap.size w W:=by rw [HW];exact(alB w _).alloc (by simp) _
 have hW0:W.heap[w.heap.size]?=some (.cells #[.slice A s.cells.length ca,.slice B s.tasks.length cb,.int .i64 s.clock,.slice C s.log.length cc] 45 (0,0)):=by
  rw [HW];exact((alB _ _).block _ (by simp)).trans (heap_alloc_new _ _)
 have hW1:W.heap[w.heap.size+1]?=some (.cells #[.slice none 0 0,.slice none 0 0,.int .i64 0,.slice none 0 0] 45 (0,0)):=by
  rw [HW];have:=heap_alloc_new (w.alloc (.cells #[.slice A s.cells.length ca,.slice B s.tasks.length cb,.int .i64 s.clock,.slice C s.log.length cc] 45)) (.cells #[.slice none 0 0,.slice none 0 0,.int .i64 0,.slice none 0 0] 45 (0,0));simpa using this
 have hz:W.heap.size=w.heap.size+1+1:=by rw [HW];simp
 clear HW
 have d0:=cell_of_row _ _ 0 _ _ _ hW0
 have d2:=cell_of_row _ _ 2 _ _ _ hW0
 simp at d0 d2
 refine wp_region_noPanic ?_
 refine wp_region_held_drew (S:=fun w'=>w'.cell? ⟨w.heap.size,0,none⟩=some (.slice A s.cells.length ca)∧w'.cell? ⟨w.heap.size,2,none⟩=some (.int .i64 s.clock)) (by kernel_rfl) ⟨d0,d2⟩ (fun hS=>?_)
 refine wpAnyH_take (i:=1) (v:=_) rfl (by kernel_rfl) (by kernel_rfl) (by kernel_rfl) (fun _ _ _ h=>h) (Or.inl ⟨by rfl,by (intro w hSw;(try dsimp only at hSw);go_simp<;>with_reducible rfl)⟩) (by assumption) ?_
 (try simp only [q1,q2,q3,Act.put,q4,q5,q6])
 refine wpAnyH_take (i:=2) (v:=_) rfl (by kernel_rfl) (by kernel_rfl) (by kernel_rfl) (fun _ _ _ h=>h) (Or.inl ⟨by rfl,by (intro w hSw;(try dsimp only at hSw);go_simp<;>with_reducible rfl)⟩) (by assumption) ?_
 (try simp only [q1,q2,q3,Act.put,q4,q5,q6])
 refine wpAnyH_take (i:=5) (v:=_) rfl (by kernel_rfl) (by kernel_rfl) (by kernel_rfl) (fun _ _ _ h=>h) (Or.inl ⟨by rfl,by (intro w hSw;(try dsimp only at hSw);go_simp<;>with_reducible rfl)⟩) (by assumption) ?_
 (try simp only [q1,q2,q3,Act.put,q4,q5,q6])
 refine wpAnyH_take (i:=6) (v:=_) rfl (by kernel_rfl) (by kernel_rfl) (by kernel_rfl) (fun _ _ _ h=>h) (Or.inl ⟨by rfl,by (intro w hSw;(try dsimp only at hSw);go_simp<;>with_reducible rfl)⟩) (by assumption) ?_
 (try simp only [q1,q2,q3,Act.put,q4,q5,q6])
 refine anyH_part (g:=1) (J20s W s A B C ca cb cc w.heap.size) (fun f l a w1 hJ=>?_) (fun l a w1 hJ=>?_) (fun f l a w1 hJ=>?_) 6 _ _ _ ?_
 ·obtain⟨x8,x11,x12,x15,x3,b0,c0,b3,b4,b7,b9,k0,k4,k7,k9,x16,b8,rfl,rfl,hf,h8,hJJ⟩:=hJ
  exact⟨(hJJ.hB.cell (p:=⟨w.heap.size,0,none⟩) (by rw [hz];simp;omega)).trans d0,(hJJ.hB.cell (p:=⟨w.heap.size,2,none⟩) (by rw [hz];simp;omega)).trans d2⟩
 ·obtain⟨x8,x11,x12,x15,x3,b0,c0,b3,b4,b7,b9,k0,k4,k7,k9,x16,b8,rfl,rfl,hf,h8,hJJ⟩:=hJ
  have hb:b0=true∧b3=true∧b4=true∧b7=true∧b8=true∧b9=true:=by
   clear hJJ h8
   rcases b0<;>rcases b3<;>rcases b4<;>rcases b7<;>rcases b9<;>rcases b8<;>simp at hf ⊢
  obtain⟨rfl,rfl,rfl,rfl,rfl,rfl⟩:=hb
  obtain⟨_,_,_,rfl⟩:=h8 rfl
  obtain rfl:=hJJ.e4 rfl
  obtain rfl:=hJJ.e7 rfl
  obtain rfl:=hJJ.e9 rfl
  obtain⟨A1,c1,rfl,_⟩:=Own.slice (hJJ.ho rfl)
  have hm9:=hJJ.m9 rfl
  have q9:=hm9.2
  have qf:=fun i=>frozen_of_row _ _ i _ _ q9
  have q90:=cell_of_row _ _ 0 _ _ _ q9
  have q91:=cell_of_row _ _ 1 _ _ _ q9
  have q92:=cell_of_row _ _ 2 _ _ _ q9
  have q93:=cell_of_row _ _ 3 _ _ _ q9
  simp at q90 q91 q92 q93
  have HJ:=Lib.hid hJJ
  clear hJJ hf h8
  refine wpAnyH_all (rs:=[10]) (by kernel_rfl) (by simp) (fun i hi=>?_)
  obtain rfl:i=10:=by simpa using hi
  refine wpOp_step rfl (fun K' hK=>?_)
  refine step_hold (a:=⟨_,_⟩) ?_
  clear hi hm9 q9
  go_simp
  have HL:=HJ.out.loop
  have hk9:=(HJ.out.m9 rfl).1
  have hB1:=HJ.out.hB
  refine hK _ _ ⟨⟨?_,?_⟩,wpAnyH_done (by kernel_rfl) (NoPanic.normal ?_) _⟩
  ·exact((HL.hB).cell (p:=⟨w.heap.size,0,none⟩) (by rw [hz];simp;omega)).trans d0
  ·exact((HL.hB).cell (p:=⟨w.heap.size,2,none⟩) (by rw [hz];simp;omega)).trans d2
  clear hK K' hS HJ qf q90 q91 q92 q93 hB1 d0 d2
  generalize (((w1.setCell ⟨k9,0,none⟩ (.slice A1 s.cells.length c1)).setCell ⟨k9,1,none⟩ (.slice (some ⟨k4,0,none⟩) 0 0)).setCell ⟨k9,2,none⟩ (.int .i64 s.clock)).setCell ⟨k9,3,none⟩ (.slice (some ⟨k7,0,none⟩) 0 0)=W2 at HL ⊢
  clear w1
  have HW:=Lib.hid (And.intro hbW (And.intro hW0 hW1))
  go_wp2_with fail
  go_loopw [4] (fun i wr=>∃ n:Nat,n≤s.tasks.length∧i=.int .i64 n∧L20 W s k9 n 0 wr) (fun i _=>s.tasks.length-(intOf i).toNat)
  case atStart=>exact⟨0,Nat.zero_le _,rfl,HL⟩
  case round =>
   obtain⟨n,hnl,rfl,hL⟩:=hrel
   have HLL:=Lib.hid hL
   obtain⟨R,vc,vt,vl,ts,es,hq,hS,hR9,_,hBr⟩:=hL
   have hBw:=below_then hbW hbW.size hBr
   have r0:=(hBr.block w.heap.size (by omega)).trans hW0
   have b1:=cell_of_row _ _ 1 _ _ _ r0
   simp at b1
   have hk9l:k9<wr.heap.size:=(Array.getElem?_eq_some_iff.1 hq).1
   by_cases hlt:n<s.tasks.length
   ·obtain⟨bt,ot,Ar,Ao,Ad,Au,cr,co,cd,cu,eB,hbt,hrows,hat⟩:=task_lit (HR.out.t.below hBw (fun k h _=>hSS k h)) hlt
    have HEB:=Lib.hid eB
    rw [eB] at b1
    have HRW:=Lib.hid hrows
    obtain⟨z1,z2,z3,z4⟩:=hT n hlt
    obtain⟨Vt,ct,rfl,_⟩:=Own.slice hS.t
    have hts:=hS.n
    simp only [List.length_take] at hts
    have hts:ts.length=n:=by omega
    rw [hts] at hq hS
    have p1:=cell_of_row _ _ 1 _ _ _ hq
    have pf:=fun i=>frozen_of_row _ _ i _ _ hq
    simp at p1
    have HH:=Lib.hid (And.intro hq (And.intro hS (And.intro hR9 (And.intro hBr hts))))
    have c0:=hat.c0;have c1:=hat.c1;have c2:=hat.c2;have c3:=hat.c3;have c4:=hat.c4;have c5:=hat.c5;have c6:=hat.c6;have c7:=hat.c7;have c8:=hat.c8;have c9:=hat.c9;have c10:=hat.c10;have c11:=hat.c11;have c12:=hat.c12
    have x1:(n:Int)<s.tasks.length:=by omega
    have x3:(0:Int)≤n:=by omega
    have tk1:True:=trivial
    have tk2:True:=trivial
    have tk3:True:=trivial
    have tk4:True:=trivial
    have tk5:True:=trivial
    clear hq hS hR9 hBr hat hrows eB HL HW hW0 hW1 r0
    go_wp2_with (first | (at_builtin;have _t:=tk1;go_must (clear tk1 _t;refine wpList_clone_at (d:=Kd.int) (wr.heap.size+1) (by simp) rfl (.tmp 29) (.tmp 31) _ rfl Tryz.underlying22 _ 8 infoInt rfl (by decide) (by decide) rfl Ar cr rfl (HRW.out.r.belowAll (alB wr _)) (by omega) ?_;intro vr w2 hoc hbc;obtain⟨An,cn,rfl,_⟩:=Own.slice hoc;have q0:=hbc.block wr.heap.size (by simp);rw [heap_alloc_new] at q0;have HB:=below_then (alB wr _) (by simp) hbc;obtain⟨e0,e1,e2,e3,e4,e5,e6,e7,e8,e9,e10,e11,e12⟩:=block13 q0;have ef:=fun i=>frozen_of_row _ _ i _ _ q0;have g9:=(HB.cell (p:=⟨k9,1,none⟩) hk9l).trans p1;have hzs:=hbc.size;(try simp at hzs);have hzl:wr.heap.size<w2.heap.size:=(by omega);have I1:=InW.of (base:=W.heap.size) plain_int hoc (by first | omega | (simp;done) | (simp;omega));simp only [World.size_alloc] at I1;clear hoc hbc)) | (at_builtin;have _t:=tk2;go_must (clear tk2 _t;refine wpList_clone_at (d:=Kd.int) w2.heap.size (by simp) rfl (.tmp 34) (.tmp 36) _ rfl Tryz.underlying22 _ 8 infoInt rfl (by decide) (by decide) rfl Ao co rfl (HRW.out.o.belowAll (HB.setCell (p:=⟨wr.heap.size,3,none⟩) (Nat.le_refl _) _)) (by omega) ?_;intro vo w3 hoc hbc;obtain⟨Ao2,co2,rfl,_⟩:=Own.slice hoc;have q1:=heap_set_at (i:=3) q0 (.slice An (s.tasks[n]).regs.length cn);have q0:=(hbc.block wr.heap.size (by first | omega | (simp;done) | (simp;omega))).trans q1;clear q1;(try simp only [List.setIfInBounds_toArray,List.set_cons_zero,List.set_cons_succ] at q0);clear e0 e1 e2 e3 e4 e5 e6 e7 e8 e9 e10 e11 e12 ef;have HB3:=HB.setCell (p:=⟨wr.heap.size,3,none⟩) (Nat.le_refl _) (.slice An (s.tasks[n]).regs.length cn);have HB:=below_then HB3 (by first | omega | (simp;done) | (simp;omega)) hbc;obtain⟨e0,e1,e2,e3,e4,e5,e6,e7,e8,e9,e10,e11,e12⟩:=block13 q0;have ef:=fun i=>frozen_of_row _ _ i _ _ q0;clear g9;have g9:=(HB.cell (p:=⟨k9,1,none⟩) hk9l).trans p1;have hzs2:=hbc.size;(try simp at hzs2);clear hzl;have hzl:wr.heap.size<w3.heap.size:=(by omega);have I1:=(I1.set (Nat.lt_succ_self _) 3 (.slice An (s.tasks[n]).regs.length cn)).below hbc;have I2:=InW.of (base:=W.heap.size) plain_int hoc (by first | omega | (simp;done) | (simp;omega));simp only [World.size_setCell] at I2;clear hoc hbc HB3)) | (go_at_call 142;have _t:=tk3;go_must (clear tk3 _t;have HB3:=HB.setCell (p:=⟨wr.heap.size,8,none⟩) (Nat.le_refl _) (.slice Ao2 (s.tasks[n]).old.length co2);refine(l11Puts_calls (s.tasks[n]).reads Ad cd _ _ (HRW.out.d.belowAll HB3) (by omega)).mono ?_;rintro e w4 ⟨v4,rfl,ho4,hbc⟩;obtain⟨Ad2,cd2,rfl,_⟩:=Own.slice ho4;have q1:=heap_set_at (i:=8) q0 (.slice Ao2 (s.tasks[n]).old.length co2);have q0:=(hbc.block wr.heap.size (by first | omega | (simp;done) | (simp;omega))).trans q1;clear q1;(try simp only [List.setIfInBounds_toArray,List.set_cons_zero,List.set_cons_succ] at q0);clear e0 e1 e2 e3 e4 e5 e6 e7 e8 e9 e10 e11 e12 ef;obtain⟨e0,e1,e2,e3,e4,e5,e6,e7,e8,e9,e10,e11,e12⟩:=block13 q0;have ef:=fun i=>frozen_of_row _ _ i _ _ q0;have HB:=below_then HB3 (by first | omega | (simp;done) | (simp;omega)) hbc;clear g9;have g9:=(HB.cell (p:=⟨k9,1,none⟩) hk9l).trans p1;have hz_w4:=hbc.size;(try simp at hz_w4);clear hzl;have hzl:wr.heap.size<w4.heap.size:=(by omega);have I1:=(I1.set (by omega) 8 (.slice Ao2 (s.tasks[n]).old.length co2)).below hbc;have I2:=(I2.set (by omega) 8 (.slice Ao2 (s.tasks[n]).old.length co2)).below hbc;have I3:=InW.of' (base:=W.heap.size) ho4 (by first | omega | (simp;done) | (simp;omega));simp only [World.size_setCell] at I3;clear ho4 hbc HB3)) | (go_at_call 142;have _t:=tk4;go_must (clear tk4 _t;have HB3:=HB.setCell (p:=⟨wr.heap.size,9,none⟩) (Nat.le_refl _) (.slice Ad2 (s.tasks[n]).reads.length cd2);refine(l11Puts_calls (s.tasks[n]).puts Au cu _ _ (HRW.out.u.belowAll HB3) (by omega)).mono ?_;rintro e w5 ⟨v4,rfl,ho4,hbc⟩;obtain⟨Au2,cu2,rfl,_⟩:=Own.slice ho4;have q1:=heap_set_at (i:=9) q0 (.slice Ad2 (s.tasks[n]).reads.length cd2);have q0:=(hbc.block wr.heap.size (by first | omega | (simp;done) | (simp;omega))).trans q1;clear q1;(try simp only [List.setIfInBounds_toArray,List.set_cons_zero,List.set_cons_succ] at q0);clear e0 e1 e2 e3 e4 e5 e6 e7 e8 e9 e10 e11 e12 ef;obtain⟨e0,e1,e2,e3,e4,e5,e6,e7,e8,e9,e10,e11,e12⟩:=block13 q0;have ef:=fun i=>frozen_of_row _ _ i _ _ q0;have HB:=below_then HB3 (by first | omega | (simp;done) | (simp;omega)) hbc;clear g9;have g9:=(HB.cell (p:=⟨k9,1,none⟩) hk9l).trans p1;have hz_w5:=hbc.size;(try simp at hz_w5);clear hzl;have hzl:wr.heap.size<w5.heap.size:=(by omega);have I1:=(I1.set (by omega) 9 (.slice Ad2 (s.tasks[n]).reads.length cd2)).below hbc;have I2:=(I2.set (by omega) 9 (.slice Ad2 (s.tasks[n]).reads.length cd2)).below hbc;have I3:=(I3.set (by omega) 9 (.slice Ad2 (s.tasks[n]).reads.length cd2)).below hbc;have I4:=InW.of' (base:=W.heap.size) ho4 (by first | omega | (simp;done) | (simp;omega));simp only [World.size_setCell] at I4;clear ho4 hbc HB3)) | (at_builtin;have _t:=tk5;go_must (clear tk5 _t;have HB5:=HB.setCell (p:=⟨wr.heap.size,10,none⟩) (Nat.le_refl _) (.slice Au2 (s.tasks[n]).puts.length cu2);refine wpList_push (d:=kTV) (wr:=w5.setCell ⟨wr.heap.size,10,none⟩ (.slice Au2 (s.tasks[n]).puts.length cu2)) (W':=w5.setCell ⟨wr.heap.size,10,none⟩ (.slice Au2 (s.tasks[n]).puts.length cu2)) (xs:=ts) (x:=⟨s.tasks[n],.slice An (s.tasks[n]).regs.length cn,.slice Ao2 (s.tasks[n]).old.length co2,.slice Ad2 (s.tasks[n]).reads.length cd2,.slice Au2 (s.tasks[n]).puts.length cu2⟩) plain_tv (Below.refl _ _) (HH.out.2.1.t.belowAll HB5) (by have h1:=HH.out.2.2.2.1.size;simp;omega) (fun _ _=>⟨rfl,rfl,rfl,rfl,rfl⟩) w5.heap.size (by simp) rfl (.tmp 48) (.tmp 50) _ rfl Tryz.underlying42 _ 168 infoTask rfl (by decide) (by decide) (by rfl) (by rfl) (by rw [HH.out.2.2.2.2];omega) ?_;intro A6 c6' w6 ho6 hk6 hv6;have q9:=hk6.blk ((HB5.block k9 hk9l).trans HH.out.1) (fun e=>by have h1:=HH.out.2.1.Rt k9 e;rw [HH.out.2.2.1] at h1;cases h1);have v1:=cell_of_row _ _ 1 _ _ _ q9;simp at v1;have vf:=fun i=>frozen_of_row _ _ i _ _ q9;clear q9;have HP:=Lib.hid (And.intro HB5 (And.intro ho6 (And.intro hk6 hv6)));clear ho6 hk6 hv6 HB5)))
    go_roundw
    case rel =>
     obtain⟨P1,P2,P3,P4⟩:=HP.out
     rw [HH.out.2.2.2.2] at P2 P4
     exact⟨n+1,by omega,by go_num,L20.task (y:=⟨s.tasks[n],.slice An (s.tasks[n]).regs.length cn,.slice Ao2 (s.tasks[n]).old.length co2,.slice Ad2 (s.tasks[n]).reads.length cd2,.slice Au2 (s.tasks[n]).puts.length cu2⟩) HH.out.1 HH.out.2.1 HH.out.2.2.1 hk9 HH.out.2.2.2.1 hlt rfl P1 (I1.set (by omega) 10 _) (I2.set (by omega) 10 _) (I3.set (by omega) 10 _) (I4.set (by omega) 10 _) ⟨by omega,by omega,by omega,by omega,by omega,by simp⟩ P2 P3 P4⟩
    case measure=>simp [intOf];omega
   ·obtain rfl:n=s.tasks.length:=by omega
    clear hq hS hR9 hBr
    go_wp2_with fail
    clear hBw hk9l hlt hnl b1 r0 HL
    obtain⟨wq,hwq⟩:∃ wq,wq=wr:=⟨_,rfl⟩
    subst hwq
    go_loopw [6] (fun i wr=>∃ q:Nat,q≤s.log.length∧i=.int .i64 q∧L20 W s k9 s.tasks.length q wr) (fun i _=>s.log.length-(intOf i).toNat)
    case atStart=>exact⟨0,Nat.zero_le _,rfl,HLL.out⟩
    case round =>
     obtain⟨q,hnl,rfl,hL⟩:=hrel
     have HLL:=Lib.hid hL
     obtain⟨R,vc,vt,vl,ts,es,hq,hS,hR9,_,hBr⟩:=hL
     have hBw:=below_then hbW hbW.size hBr
     have r0:=(hBr.block w.heap.size (by omega)).trans hW0
     have r1:=(hBr.block (w.heap.size+1) (by omega)).trans hW1
     have b1:=cell_of_row _ _ 3 _ _ _ r0
     simp at b1
     have hk9l:k9<wr.heap.size:=(Array.getElem?_eq_some_iff.1 hq).1
     by_cases hlt:q<s.log.length
     ·obtain⟨bt,ot,Ad,Au,cd,cu,eB,hbt,hrows,hat⟩:=entry_lit (HR.out.l.below hBw (fun k h _=>hSS k h)) hlt
      rw [eB] at b1
      have HRW:=Lib.hid hrows
      obtain⟨z1,z2⟩:=hE q hlt
      obtain⟨Vt,ct,rfl,_⟩:=Own.slice hS.l
      have hts:=hS.m
      simp only [List.length_take] at hts
      have hts:es.length=q:=by omega
      rw [hts] at hq hS
      have p3:=cell_of_row _ _ 3 _ _ _ hq
      have pf:=fun i=>frozen_of_row _ _ i _ _ hq
      simp at p3
      have HH:=Lib.hid (And.intro hq (And.intro hS (And.intro hR9 (And.intro hBr hts))))
      have c0:=hat.c0;have c1:=hat.c1;have c2:=hat.c2;have c3:=hat.c3;have c4:=hat.c4;have c5:=hat.c5
      have x1:(q:Int)<s.log.length:=by omega
      have x3:(0:Int)≤q:=by omega
      have tk1:True:=trivial
      have tk2:True:=trivial
      have tk3:True:=trivial
      clear hq hS hR9 hBr hat hrows eB HW hW0 hW1 r0 r1
      go_wp2_with (first | (go_at_call 142;have _t:=tk1;go_must (clear tk1 _t;refine(l11Puts_calls (s.log[q]).reads Ad cd _ _ (HRW.out.d.belowAll (alB wr _)) (by omega)).mono ?_;rintro e w2 ⟨v4,rfl,ho4,hbc⟩;obtain⟨Ad2,cd2,rfl,_⟩:=Own.slice ho4;have q0:=hbc.block wr.heap.size (by simp);rw [heap_alloc_new] at q0;have HB:=below_then (alB wr _) (by simp) hbc;obtain⟨e0,e1,e2,e3,e4,e5⟩:=block6 q0;have ef:=fun i=>frozen_of_row _ _ i _ _ q0;have g9:=(HB.cell (p:=⟨k9,3,none⟩) hk9l).trans p3;have hzs:=hbc.size;(try simp at hzs);have hzl:wr.heap.size<w2.heap.size:=(by omega);have I1:=InW.of' (base:=W.heap.size) ho4 (by first | omega | (simp;done) | (simp;omega));simp only [World.size_alloc] at I1;clear ho4 hbc)) | (go_at_call 142;have _t:=tk2;go_must (clear tk2 _t;have HB3:=HB.setCell (p:=⟨wr.heap.size,3,none⟩) (Nat.le_refl _) (.slice Ad2 (s.log[q]).reads.length cd2);refine(l11Puts_calls (s.log[q]).puts Au cu _ _ (HRW.out.u.belowAll HB3) (by omega)).mono ?_;rintro e w3 ⟨v4,rfl,ho4,hbc⟩;obtain⟨Au2,cu2,rfl,_⟩:=Own.slice ho4;have q1:=heap_set_at (i:=3) q0 (.slice Ad2 (s.log[q]).reads.length cd2);have q0:=(hbc.block wr.heap.size (by first | omega | (simp;done) | (simp;omega))).trans q1;clear q1;(try simp only [List.setIfInBounds_toArray,List.set_cons_zero,List.set_cons_succ] at q0);clear e0 e1 e2 e3 e4 e5 ef;obtain⟨e0,e1,e2,e3,e4,e5⟩:=block6 q0;have ef:=fun i=>frozen_of_row _ _ i _ _ q0;have HB:=below_then HB3 (by first | omega | (simp;done) | (simp;omega)) hbc;clear g9;have g9:=(HB.cell (p:=⟨k9,3,none⟩) hk9l).trans p3;have hz3:=hbc.size;(try simp at hz3);clear hzl;have hzl:wr.heap.size<w3.heap.size:=(by omega);have I1:=(I1.set (by omega) 3 (.slice Ad2 (s.log[q]).reads.length cd2)).below hbc;have I2:=InW.of' (base:=W.heap.size) ho4 (by first | omega | (simp;done) | (simp;omega));simp only [World.size_setCell] at I2;clear ho4 hbc HB3)) | (at_builtin;have _t:=tk3;go_must (clear tk3 _t;have HB5:=HB.setCell (p:=⟨wr.heap.size,4,none⟩) (Nat.le_refl _) (.slice Au2 (s.log[q]).puts.length cu2);refine wpList_push (d:=kEV) (wr:=w3.setCell ⟨wr.heap.size,4,none⟩ (.slice Au2 (s.log[q]).puts.length cu2)) (W':=w3.setCell ⟨wr.heap.size,4,none⟩ (.slice Au2 (s.log[q]).puts.length cu2)) (xs:=es) (x:=⟨s.log[q],.slice Ad2 (s.log[q]).reads.length cd2,.slice Au2 (s.log[q]).puts.length cu2⟩) plain_ev (Below.refl _ _) (HH.out.2.1.l.belowAll HB5) (by have h1:=HH.out.2.2.2.1.size;simp;omega) (fun _ _=>⟨rfl,rfl,rfl⟩) w3.heap.size (by simp) rfl (.tmp 74) (.tmp 76) _ rfl Tryz.underlying43 _ 80 infoEntry rfl (by decide) (by decide) (by rfl) (by rfl) (by rw [HH.out.2.2.2.2];omega) ?_;intro A6 c6' w6 ho6 hk6 hv6;have q9:=hk6.blk ((HB5.block k9 hk9l).trans HH.out.1) (fun e=>by have h1:=HH.out.2.1.Rl k9 e;rw [HH.out.2.2.1] at h1;cases h1);have v1:=cell_of_row _ _ 3 _ _ _ q9;simp at v1;have vf:=fun i=>frozen_of_row _ _ i _ _ q9;clear q9;have HP:=Lib.hid (And.intro HB5 (And.intro ho6 (And.intro hk6 hv6)));clear ho6 hk6 hv6 HB5)))
      go_roundw
      case rel =>
       obtain⟨P1,P2,P3,P4⟩:=HP.out
       rw [HH.out.2.2.2.2] at P2 P4
       exact⟨q+1,by omega,by go_num,L20.entry HH.out.1 HH.out.2.1 HH.out.2.2.1 hk9 HH.out.2.2.2.1 hlt P1 (I1.set (by omega) 4 _) (I2.set (by omega) 4 _) ⟨by omega,by omega,by omega,by simp⟩ P2 P3 P4⟩
      case measure=>simp [intOf];omega
     ·obtain rfl:q=s.log.length:=by omega
      obtain⟨Vc,cc',rfl,_⟩:=Own.slice hS.c
      obtain⟨Vt,ct,rfl,_⟩:=Own.slice hS.t
      obtain⟨Vl,cl,rfl,_⟩:=Own.slice hS.l
      have u0:=cell_of_row _ _ 0 _ _ _ hq
      have u1:=cell_of_row _ _ 1 _ _ _ hq
      have u2:=cell_of_row _ _ 2 _ _ _ hq
      have u3:=cell_of_row _ _ 3 _ _ _ hq
      have t0:=cell_of_row _ _ 0 _ _ _ r1
      have t1:=cell_of_row _ _ 1 _ _ _ r1
      have t2:=cell_of_row _ _ 2 _ _ _ r1
      have t3:=cell_of_row _ _ 3 _ _ _ r1
      have tf:=fun i=>frozen_of_row _ _ i _ _ r1
      simp at u0 u1 u2 u3 t0 t1 t2 t3
      have HH:=Lib.hid (And.intro hS hBr)
      have HBW:=Lib.hid hBw
      clear hq hS hBr hBw r0 r1 HLL hR9 HW hW0 hW1 hbW
      go_wp2
      have hR0:∀ k,k<W.heap.size→R k=.no:=fun k hk=>Classical.byContradiction fun hn=>by have:=HH.out.1.ge k hn;omega
      have hr1:=hR0 (w.heap.size+1) (by omega)
      have hSS:=(((HH.out.1.far (p:=⟨w.heap.size+1,0,none⟩) hr1 (.slice Vc s.cells.length cc')).far (p:=⟨w.heap.size+1,1,none⟩) hr1 (.slice Vt ts.length ct)).far (p:=⟨w.heap.size+1,2,none⟩) hr1 (.int .i64 s.clock)).far (p:=⟨w.heap.size+1,3,none⟩) hr1 (.slice Vl es.length cl)
      have hBB:=(((HBW.out.setCell (p:=⟨w.heap.size+1,0,none⟩) (by simp) (.slice Vc s.cells.length cc')).setCell (p:=⟨w.heap.size+1,1,none⟩) (by simp) (.slice Vt ts.length ct)).setCell (p:=⟨w.heap.size+1,2,none⟩) (by simp) (.int .i64 s.clock)).setCell (p:=⟨w.heap.size+1,3,none⟩) (by simp) (.slice Vl es.length cl)
      simp only [List.take_length] at hSS
      refine bodyPost_ret (v:=.agg #[.slice Vc s.cells.length cc',.slice Vt ts.length ct,.int .i64 s.clock,.slice Vl es.length cl]) (by simp [results,Tryz.results103,go_sem, *]) rfl ⟨R,_,_,_,rfl,⟨ts,es,hSS.lower (by omega)⟩,hBB⟩
 ·obtain⟨x8,x11,x12,x15,x3,b0,c0,b3,b4,b7,b9,k0,k4,k7,k9,x16,b8,rfl,rfl,hf,h8,hJJ⟩:=hJ
  refine⟨?_,fun i hi=>?_⟩
  ·have h30:=hJJ.h30
   clear hJJ
   rcases b0<;>rcases b3<;>rcases b4<;>rcases b7<;>rcases b9<;>rcases b8<;>first | (exfalso;simp at hf;done) | (exfalso;simp at h30;done) | (exfalso;simp at h8;done) | exact ne_nil (by kernel_rfl)
  ·obtain⟨h1,h2⟩:=ready_at hi
   have hi8:i<11:=Classical.byContradiction fun h=>by
    rw [Array.getD_eq_getD_getElem?,Array.getElem?_eq_none (by simp;omega)] at h1
    cases h1
   obtain rfl | rfl | rfl | rfl | rfl | rfl | rfl | rfl | rfl | rfl | rfl:i=0∨i=1∨i=2∨i=3∨i=4∨i=5∨i=6∨i=7∨i=8∨i=9∨i=10:=by omega
   ·have h1:b0=false:=h1
    subst h1
    clear h2 hi
    refine wpOp_step rfl (fun K' hK=>?_)
    refine step_hold (a:=⟨_,_⟩) ?_
    go_simp
    exact hK _ _ ⟨_,x11,x12,x15,x3,true,true,b3,b4,b7,b9,w1.heap.size,k4,k7,k9,x16,b8,rfl,rfl,by simp at hf ⊢;omega,fun q=>absurd (hJJ.h30 (h8 q).1) (by decide),hJJ.s0⟩
   ·cases h1
   ·cases h1
   ·have h1:b3=false:=h1
    have g0:=h2 _ rfl ⟨0,.data⟩ (by simp) rfl
    simp at g0
    subst h1;subst g0
    clear h2 hi
    have hr:=(HR.out.c.below (w':=w1) (below_then hbW hbW.size hJJ.hB) (fun k h _=>hSS k h))
    obtain rfl:=hJJ.e0 rfl
    have hc0:c0=true:=hJJ.hc
    subst hc0
    refine wpOp_step rfl (fun K' hK=>?_)
    refine step_append_kd (d:=kCell) (xs:=[]) rfl (.tmp 8) (.tmp 10) _ rfl Tryz.underlying41 _ 24 infoCell rfl (by decide) (by decide) (by rfl) (own_nil0 plain_cell (hJJ.m0 rfl).2 (hJJ.m0 rfl).1) A ca (by rfl) hr (fun k hk e=>?_) (by simp;omega) hJJ.hB.size ?_
    ·have h1:=hSS k hk
     have h2:=(hJJ.m0 rfl).1
     simp [Value.ownBlock] at e
     omega
    ·intro v' w' ho hg hv
     exact hK _ _ ⟨_,v',x12,x15,x3,true,false,true,b4,b7,b9,k0,k4,k7,k9,x16,b8,rfl,rfl,by simp at hf ⊢;omega,fun q=>absurd (h8 q).1 (by decide),hJJ.s3 (by simpa using ho) hg hv⟩
   ·have h1:b4=false:=h1
    subst h1
    clear h2 hi
    refine wpOp_step rfl (fun K' hK=>?_)
    refine step_hold (a:=⟨_,_⟩) ?_
    go_simp
    exact hK _ _ ⟨x8,x11,_,x15,x3,b0,c0,b3,true,b7,b9,k0,w1.heap.size,k7,k9,x16,b8,rfl,rfl,by simp at hf ⊢;omega,fun q=>absurd (h8 q).2.1 (by decide),hJJ.s4⟩
   ·cases h1
   ·cases h1
   ·have h1:b7=false:=h1
    subst h1
    clear h2 hi
    refine wpOp_step rfl (fun K' hK=>?_)
    refine step_hold (a:=⟨_,_⟩) ?_
    go_simp
    exact hK _ _ ⟨x8,x11,x12,_,x3,b0,c0,b3,b4,true,b9,k0,k4,w1.heap.size,k9,x16,b8,rfl,rfl,by simp at hf ⊢;omega,fun q=>absurd (h8 q).2.2.1 (by decide),hJJ.s7⟩
   ·have h1:b8=false:=h1
    have g3:=h2 _ rfl ⟨3,.data⟩ (by simp) rfl
    have g4:=h2 _ rfl ⟨4,.data⟩ (by simp) rfl
    have g7:=h2 _ rfl ⟨7,.data⟩ (by simp) rfl
    simp at g3 g4 g7
    subst h1;subst g3;subst g4;subst g7
    clear h2 hi
    obtain rfl:=hJJ.e4 rfl
    obtain rfl:=hJJ.e7 rfl
    obtain⟨A1,c1,rfl,_⟩:=Own.slice (hJJ.ho rfl)
    refine wpOp_step rfl (fun K' hK=>?_)
    refine step_hold (a:=⟨_,_⟩) ?_
    go_simp
    exact hK _ _ ⟨x8,_,_,_,x3,b0,c0,true,true,true,b9,k0,k4,k7,k9,_,true,rfl,rfl,by simp at hf ⊢;omega,fun _=>⟨rfl,rfl,rfl,rfl⟩,hJJ⟩
   ·have h1:b9=false:=h1
    subst h1
    clear h2 hi
    refine wpOp_step rfl (fun K' hK=>?_)
    refine step_hold (a:=⟨_,_⟩) ?_
    go_simp
    exact hK _ _ ⟨x8,x11,x12,x15,_,b0,c0,b3,b4,b7,true,k0,k4,k7,w1.heap.size,x16,b8,rfl,rfl,by simp at hf ⊢;omega,h8,hJJ.s9⟩
   ·exfalso
    have g8:=h2 _ rfl ⟨8,.data⟩ (by simp) rfl
    have g9:=h2 _ rfl ⟨9,.data⟩ (by simp) rfl
    simp at g8 g9
    obtain⟨g3,g4,g7,_⟩:=h8 g8
    have g0:=hJJ.h30 g3
    subst g8;subst g9;subst g3;subst g4;subst g7;subst g0
    simp at hf
 ·exact⟨undef,undef,undef,undef,undef,false,false,false,false,false,false,0,0,0,0,undef,false,rfl,rfl,rfl,(fun e=>by cases e),rfl,(fun e=>by cases e),(fun e=>by cases e),(fun e=>by cases e),(fun e=>by cases e),(fun e=>by cases e),Made.none,Made.none,Made.none,Made.none,Apart2.none,Apart2.none,Apart2.none,Apart2.none,Apart2.none,Apart2.none,OwnB.none,ApartX.none,ApartX.none,ApartX.none,(Below.refl _ _).drew⟩
end Go.Proofs.YtjacjafmimgfcaaGreat
