/- A system of the call's own: its cells are written, its rows turned.; A machine: a block that holds the headers of a program and of a system; the system's rows are its own. -/
import Derived.Test.YtjacjafmimgfcaaGreatWaj
set_option linter.unusedVariables false
set_option linter.unusedSimpArgs false
namespace Go.Proofs.YtjacjafmimgfcaaGreat
open Go.RowKit
section
variable {R R':Nat→Role}{w w' W:World}{base:Nat}{vc vt vl:Value}{s:Sys}{ts:List TV}{es:List EV}{j:Nat}{x x':TV}{T:Nat→Prop}
theorem OwnF.put {g n cap:Nat}(h:OwnF kTV 118 w base (.slice (some ⟨g,0,none⟩) n cap) (ts.set j x))(hn:n=ts.length)(hj:j<ts.length)(i:Nat)(hi:i<13)(u:Value)(x':TV)(henc:x'.enc=x.enc.set i u)
  (h1:x'.r.oneCell'=true) (h2:x'.o.oneCell'=true) (h3:x'.d.oneCell'=true) (h4:x'.u.oneCell'=true) :
  OwnF kTV 118 (w.setCell ⟨g,j*13+i,none⟩ u) base (.slice (some ⟨g,0,none⟩) n cap) (ts.set j x'):=by
 subst hn
 have hl:ts.length=(ts.set j x).length:=by simp
 have h':Own kTV 118 w base (fun k=>Value.ownBlock (.slice (some ⟨g,0,none⟩) ts.length cap)=some k) (.slice (some ⟨g,0,none⟩) (ts.set j x).length cap) (ts.set j x):=by rw [← hl];exact h
 have:=Own.setAt h' (j:=j) (by simp;exact hj) (i:=i) hi u x' (fun c hc=>by
  rw [List.getElem_set_self] at hc
  obtain⟨rfl,_⟩:=hc
  exact⟨henc.symm,h1,h2,h3,h4⟩)
 rw [List.set_set,← hl] at this
 exact OwnF.of plain_tv this
theorem OwnF.same {v:Value}(h:OwnF kTV 118 w base v (ts.set j x))(hj:j<ts.length)(henc:x'.enc=x.enc)(h1:x'.r.oneCell'=true)(h2:x'.o.oneCell'=true)(h3:x'.d.oneCell'=true)(h4:x'.u.oneCell'=true):OwnF kTV 118 w base v (ts.set j x'):=by
 obtain⟨css,g1,g2,g3,g4⟩:=h
 refine own_intro css (by rw [List.length_set] at g1 ⊢;exact g1) (by rw [List.length_set] at g2 ⊢;exact g2) g3 (fun i y hi=>?_)
 rw [List.getElem?_set] at hi
 by_cases e:j=i
 ·subst e
  rw [if_pos rfl,if_pos hj] at hi
  injection hi with hi
  subst hi
  obtain⟨c,hc,hk,_⟩:=g4 j x (by simp [hj])
  exact⟨c,hc,by rw [hk,henc],h1,h2,h3,h4⟩
 ·rw [if_neg e] at hi
  exact g4 i y (by rw [List.getElem?_set,if_neg e];exact hi)
theorem set_self (l:List TV)(hj:l[j]?=some x):l.set j x=l:=by
 obtain⟨hl,rfl⟩:=List.getElem?_eq_some_iff.1 hj
 exact List.set_getElem_self hl
theorem SysO.one (h:SysO R w base vc vt vl s ts es)(hj:ts[j]?=some x):x.r.oneCell'=true∧x.o.oneCell'=true∧x.d.oneCell'=true∧x.u.oneCell'=true :=
 ⟨(h.tt j x hj).r.one,(h.tt j x hj).o.one,(h.tt j x hj).d.one,(h.tt j x hj).u.one⟩
theorem SysO.place (h:SysO R w base vc vt vl s ts es)(hj:ts[j]?=some x):∃ g cap,vt=.slice (some ⟨g,0,none⟩) ts.length cap∧ts.length≤cap∧R g=.tasks∧base≤g∧g<w.heap.size∧j<ts.length:=by
 have hl:j<ts.length:=(List.getElem?_eq_some_iff.1 hj).1
 obtain⟨g,cap,rfl,h1,h2,_,h3⟩:=Own.place h.t (by omega)
 exact⟨g,cap,rfl,h3,h.Rt g rfl,h1,h2,hl⟩
theorem own_taskAt {g n cap:Nat}(h:OwnF kTV 118 w base (.slice (some ⟨g,0,none⟩) n cap) ts)(hn:n=ts.length)(hj:ts[j]?=some x):TaskAt w ⟨g,j*13,none⟩ x.t x.r x.o x.d x.u∧∀ i,w.frozen? ⟨g,i,none⟩=false:=by
 subst hn
 obtain⟨hl,rfl⟩:=List.getElem?_eq_some_iff.1 hj
 obtain⟨c,⟨rfl,_⟩,hc,hf⟩:=Own.cellAt h hl
 simp only [kTV_sz] at hc
 exact⟨⟨hc 0 _ rfl,hc 1 _ rfl,hc 2 _ rfl,hc 3 _ rfl,hc 4 _ rfl,hc 5 _ rfl,hc 6 _ rfl,hc 7 _ rfl,hc 8 _ rfl,hc 9 _ rfl,hc 10 _ rfl,hc 11 _ rfl,hc 12 _ rfl⟩,hf⟩
theorem own_cellAt {g n cap:Nat}{cs:List Cell}{i:Nat}(h:OwnF kCell 130 w base (.slice (some ⟨g,0,none⟩) n cap) cs)(hn:n=cs.length)(hi:i<cs.length) :
  w.cell? ⟨g,i*3,none⟩=some (.int .i64 cs[i].num)∧w.cell? ⟨g,i*3+1,none⟩=some (.int .i64 cs[i].time)∧w.cell? ⟨g,i*3+2,none⟩=some (.int .i64 cs[i].lock)∧∀ q,w.frozen? ⟨g,q,none⟩=false:=by
 subst hn
 obtain⟨c,rfl,hc,hf⟩:=Own.cellAt h hi
 simp only [kCell_sz] at hc
 exact⟨hc 0 _ rfl,hc 1 _ rfl,hc 2 _ rfl,hf⟩
theorem OwnF.putCell {g n cap:Nat}{cs:List Cell}{i:Nat}{c:Cell}(h:OwnF kCell 130 w base (.slice (some ⟨g,0,none⟩) n cap) (cs.set i c))(hn:n=cs.length)(hi:i<cs.length)(q:Nat)(hq:q<3)(u:Value)(c':Cell)(henc:encCell c'=(encCell c).set q u) :
  OwnF kCell 130 (w.setCell ⟨g,i*3+q,none⟩ u) base (.slice (some ⟨g,0,none⟩) n cap) (cs.set i c'):=by
 subst hn
 have hl:cs.length=(cs.set i c).length:=by simp
 have h':Own kCell 130 w base (fun k=>Value.ownBlock (.slice (some ⟨g,0,none⟩) cs.length cap)=some k) (.slice (some ⟨g,0,none⟩) (cs.set i c).length cap) (cs.set i c):=by rw [← hl];exact h
 have:=Own.setAt h' (j:=i) (by simp;exact hi) (i:=q) hq u c' (fun cc hc=>by
  rw [List.getElem_set_self] at hc
  have hc:cc=encCell c:=hc
  subst hc
  exact henc.symm)
 rw [List.set_set,← hl] at this
 exact OwnF.of plain_cell this
theorem set_selfC (l:List Cell){i:Nat}(hi:i<l.length):l.set i l[i]=l:=List.set_getElem_self hi
/-! ### Put together again -/
theorem TOwn.turn (h:TOwn R w base j x)(hR:∀ k,R k≠.no→R' k=R k):TOwn R' w base j x :=
 ⟨h.r,h.o,h.d,h.u,fun k hk=>by rw [hR k (by rw [h.Rr k hk];exact Role.noConfusion)];exact h.Rr k hk,fun k hk=>by rw [hR k (by rw [h.Ro k hk];exact Role.noConfusion)];exact h.Ro k hk,fun k hk=>by rw [hR k (by rw [h.Rd k hk];exact Role.noConfusion)];exact h.Rd k hk,fun k hk=>by rw [hR k (by rw [h.Ru k hk];exact Role.noConfusion)];exact h.Ru k hk⟩
theorem EOwn.turn {x:EV}(h:EOwn R w base j x)(hR:∀ k,R k≠.no→R' k=R k):EOwn R' w base j x :=
 ⟨h.d,h.u,fun k hk=>by rw [hR k (by rw [h.Rd k hk];exact Role.noConfusion)];exact h.Rd k hk,fun k hk=>by rw [hR k (by rw [h.Ru k hk];exact Role.noConfusion)];exact h.Ru k hk⟩
theorem TOwn.keep (h:TOwn R w base j x)(hk:Keep T w W)(hT:∀ f k,R k=.tk j f→¬ T k):TOwn R W base j x :=
 ⟨h.r.keep hk fun k e=>hT 0 k (h.Rr k e),h.o.keep hk fun k e=>hT 1 k (h.Ro k e),h.d.keep hk fun k e=>hT 2 k (h.Rd k e),h.u.keep hk fun k e=>hT 3 k (h.Ru k e),h.Rr,h.Ro,h.Rd,h.Ru⟩
theorem EOwn.keep {x:EV}(h:EOwn R w base j x)(hk:Keep T w W)(hT:∀ f k,R k=.en j f→¬ T k):EOwn R W base j x :=
 ⟨h.d.keep hk fun k e=>hT 0 k (h.Rd k e),h.u.keep hk fun k e=>hT 1 k (h.Ru k e),h.Rd,h.Ru⟩
theorem set_cases {l:List TV}{i:Nat}{y:TV}(h:(l.set j x)[i]?=some y):(i=j∧y=x)∨(i≠j∧l[i]?=some y):=by
 rw [List.getElem?_set] at h
 by_cases e:j=i
 ·subst e
  rw [if_pos rfl] at h
  split at h
  ·injection h with h;exact .inl ⟨rfl,h.symm⟩
  ·cases h
 ·rw [if_neg e] at h;exact .inr ⟨fun x=>e x.symm,h⟩
theorem SysO.task (h:SysO R w base vc vt vl s ts es)(hj:j<ts.length)(hk:Keep T w W)(hT:∀ k,T k→R k=.tasks∨∃ f,R k=.tk j f)(hR:∀ k,R k≠.no→R' k=R k)(hlt:∀ k,R' k≠.no→k<W.heap.size∧base≤k)
  (ht:OwnF kTV 118 W base vt (ts.set j x')) (hx:TOwn R' W base j x'):SysO R' W base vc vt vl (s.setT j x'.t) (ts.set j x') es:=by
 have nT:∀ k r,R k=r→r≠.tasks→(∀ f,r≠.tk j f)→¬ T k:=fun k r e h1 h2 hk=>by
  rcases hT k hk with e2 | ⟨f,e2⟩
  ·exact h1 (e.symm.trans e2)
  ·exact h2 f (e.symm.trans e2)
 refine⟨by rw [List.map_set,h.ets];rfl,h.ees,h.c.keep hk fun k e=>nT k _ (h.Rc k e) Role.noConfusion (fun _=>Role.noConfusion),ht,h.l.keep hk fun k e=>nT k _ (h.Rl k e) Role.noConfusion (fun _=>Role.noConfusion),?_,?_,?_,fun i y hi=>?_,fun i y hi=>?_,fun k hk=>(hlt k hk).1,fun k hk=>(hlt k hk).2⟩
 ·intro k e;rw [hR k (by rw [h.Rc k e];exact Role.noConfusion)];exact h.Rc k e
 ·intro k e;rw [hR k (by rw [h.Rt k e];exact Role.noConfusion)];exact h.Rt k e
 ·intro k e;rw [hR k (by rw [h.Rl k e];exact Role.noConfusion)];exact h.Rl k e
 ·rcases set_cases hi with ⟨rfl,rfl⟩ | ⟨hne,hi⟩
  ·exact hx
  ·refine TOwn.turn ((h.tt i y hi).keep hk fun f k e=>nT k _ e Role.noConfusion fun f' e2=>?_) hR
   injection e2 with e2 _
   exact hne e2
 ·exact EOwn.turn ((h.ee i y hi).keep hk fun f k e=>nT k _ e Role.noConfusion (fun _=>Role.noConfusion)) hR
theorem SysO.cells {cs':List Cell}{clock':Int}(h:SysO R w base vc vt vl s ts es)(hk:Keep T w W)(hT:∀ k,T k→R k=.cells)(hc:OwnF kCell 130 W base vc cs'):SysO R W base vc vt vl { s with cells:=cs',clock:=clock' } ts es:=by
 have nT:∀ k r,R k=r→r≠.cells→¬ T k:=fun k r e h1 hk=>h1 (e.symm.trans (hT k hk))
 exact⟨h.ets,h.ees,hc,h.t.keep hk fun k e=>nT k _ (h.Rt k e) Role.noConfusion,h.l.keep hk fun k e=>nT k _ (h.Rl k e) Role.noConfusion,h.Rc,h.Rt,h.Rl,fun i y hi=>(h.tt i y hi).keep hk fun f k e=>nT k _ e Role.noConfusion,fun i y hi=>(h.ee i y hi).keep hk fun f k e=>nT k _ e Role.noConfusion,fun k hk'=>Nat.lt_of_lt_of_le (h.lt k hk') hk.size,h.ge⟩
theorem SysO.end_ {vl':Value}{e:Entry}(h:SysO R w base vc vt vl s ts es)(hj:ts[j]?=some x)(hk:Keep T w W)(hT:∀ k,T k→R k=.tasks∨R k=.log)
  (ht:OwnF kTV 118 W base vt (ts.set j x')) (hl:OwnF kEV 68 W base vl' (es ++ [⟨e,x.d,x.u⟩])) (hvl:∀ k,vl'.ownBlock=some k→R k=.no∨R k=.log) (hge:∀ k,vl'.ownBlock=some k→base≤k)
  (er:e.reads=x.t.reads) (eu:e.puts=x.t.puts) (xr:x'.r=x.r) (xo:x'.o=x.o) (xtr:x'.t.regs=x.t.regs) (xto:x'.t.old=x.t.old) (xd:OwnF kPut 127 W base x'.d x'.t.reads) (xu:OwnF kPut 127 W base x'.u x'.t.puts) (nd:x'.d.ownBlock=none) (nu:x'.u.ownBlock=none) :
  ∃ R',SysO R' W base vc vt vl' { s.setT j x'.t with log:=s.log ++ [e] } (ts.set j x') (es ++ [⟨e,x.d,x.u⟩])∧∀ k,R' k≠.no→R k≠.no∨vl'.ownBlock=some k:=by
 have hx:=h.tt j x hj
 have nT:∀ k r,R k=r→r≠.tasks→r≠.log→¬ T k:=fun k r e h1 h2 hk=>by
  rcases hT k hk with e2 | e2
  ·exact h1 (e.symm.trans e2)
  ·exact h2 (e.symm.trans e2)
 let R':Nat→Role:=fun k=>if vl'.ownBlock=some k then .log else if R k=.tk j 2 then .en es.length 0 else if R k=.tk j 3 then .en es.length 1 else R k
 have hR:∀ k r,R k=r→r≠.no→r≠.log→r≠.tk j 2→r≠.tk j 3→R' k=r:=by
  intro k r e h0 h1 h2 h3
  have:vl'.ownBlock≠some k:=fun e2=>by rcases hvl k e2 with e3 | e3;exact h0 (e.symm.trans e3);exact h1 (e.symm.trans e3)
  simp only [R',if_neg this,e,if_neg h2,if_neg h3]
 have hR2:∀ k f,R k=.tk j f→vl'.ownBlock≠some k:=fun k f e e2=>by rcases hvl k e2 with e3 | e3<;>rw [e] at e3<;>exact Role.noConfusion e3
 refine⟨R',⟨by rw [List.map_set,h.ets];rfl,by rw [List.map_append,h.ees];rfl,h.c.keep hk fun k e=>nT k _ (h.Rc k e) Role.noConfusion Role.noConfusion,ht,hl,?_,?_,?_,fun i y hi=>?_,fun i y hi=>?_,fun k hk'=>?_,fun k hk'=>?_⟩,fun k hk'=>?_⟩
 ·intro k e;exact hR k _ (h.Rc k e) Role.noConfusion Role.noConfusion Role.noConfusion Role.noConfusion
 ·intro k e;exact hR k _ (h.Rt k e) Role.noConfusion Role.noConfusion Role.noConfusion Role.noConfusion
 ·intro k e;simp only [R',if_pos e]
 ·rcases set_cases hi with ⟨rfl,rfl⟩ | ⟨hne,hi⟩
  ·refine⟨?_,?_,xd,xu,?_,?_,?_,?_⟩
   ·rw [xr,xtr];exact hx.r.keep hk fun k e=>nT k _ (hx.Rr k e) Role.noConfusion Role.noConfusion
   ·rw [xo,xto];exact hx.o.keep hk fun k e=>nT k _ (hx.Ro k e) Role.noConfusion Role.noConfusion
   rotate_left
   rotate_left
   ·intro k e;rw [nd] at e;cases e
   ·intro k e;rw [nu] at e;cases e
   ·intro k e;rw [xr] at e;exact hR k _ (hx.Rr k e) Role.noConfusion Role.noConfusion (by simp) (by simp)
   ·intro k e;rw [xo] at e;exact hR k _ (hx.Ro k e) Role.noConfusion Role.noConfusion (by simp) (by simp)
  ·have hy:=(h.tt i y hi).keep hk fun f k e=>nT k _ e Role.noConfusion Role.noConfusion
   have hi2:∀ f q,(Role.tk i f)≠.tk j q:=fun f q e=>by injection e with e _;exact hne e
   exact⟨hy.r,hy.o,hy.d,hy.u,fun k e=>hR k _ (hy.Rr k e) Role.noConfusion Role.noConfusion (hi2 _ _) (hi2 _ _),fun k e=>hR k _ (hy.Ro k e) Role.noConfusion Role.noConfusion (hi2 _ _) (hi2 _ _),fun k e=>hR k _ (hy.Rd k e) Role.noConfusion Role.noConfusion (hi2 _ _) (hi2 _ _),fun k e=>hR k _ (hy.Ru k e) Role.noConfusion Role.noConfusion (hi2 _ _) (hi2 _ _)⟩
 ·rcases Nat.lt_or_ge i es.length with hlt | hge
  ·rw [List.getElem?_append_left hlt] at hi
   have hy:=(h.ee i y hi).keep hk fun f k e=>nT k _ e Role.noConfusion Role.noConfusion
   exact⟨hy.d,hy.u,fun k e=>hR k _ (hy.Rd k e) Role.noConfusion Role.noConfusion Role.noConfusion Role.noConfusion,fun k e=>hR k _ (hy.Ru k e) Role.noConfusion Role.noConfusion Role.noConfusion Role.noConfusion⟩
  ·have hi0:i=es.length:=by
    have:=(List.getElem?_eq_some_iff.1 hi).1
    simp at this;omega
   subst hi0
   rw [List.getElem?_append_right (Nat.le_refl _)] at hi
   simp at hi
   subst hi
   refine⟨by rw [er];exact hx.d.keep hk fun k e=>nT k _ (hx.Rd k e) Role.noConfusion Role.noConfusion,by rw [eu];exact hx.u.keep hk fun k e=>nT k _ (hx.Ru k e) Role.noConfusion Role.noConfusion,fun k e=>?_,fun k e=>?_⟩
   ·have e2:=hx.Rd k e
    simp only [R',if_neg (hR2 k _ e2),if_pos e2]
   ·have e2:=hx.Ru k e
    have:R k≠.tk j 2:=by rw [e2];simp
    simp only [R',if_neg (hR2 k _ e2),if_neg this,if_pos e2]
 ·rcases Classical.em (vl'.ownBlock=some k) with e | e
  ·exact(hl.blk k e).2
  ·have:R k≠.no:=fun e2=>hk' (by simp only [R',if_neg e,e2];simp)
   exact Nat.lt_of_lt_of_le (h.lt k this) hk.size
 ·rcases Classical.em (vl'.ownBlock=some k) with e | e
  ·exact hge k e
  ·have:R k≠.no:=fun e2=>hk' (by simp only [R',if_neg e,e2];simp)
   exact h.ge k this
 ·rcases Classical.em (vl'.ownBlock=some k) with e | e
  ·exact .inr e
  ·exact .inl fun e2=>hk' (by simp only [R',if_neg e,e2];simp)
end
end Go.Proofs.YtjacjafmimgfcaaGreat
namespace Go.Proofs.YtjacjafmimgfcaaGreat
open Go.RowKit
structure Mc where
 T:TypeId
 p:Prog
 P:Option Addr
 Q:Option Addr
 cp:Nat
 cq:Nat
 base:Nat
 g:Nat
 R0:Nat→Role
 w0:World
structure Moved (R:Nat→Role) (w:World) (R':Nat→Role) (w':World):Prop where
 k:Keep (fun k=>R k≠.no) w w'
 r:∀ k,R' k≠.no→R k≠.no∨w.heap.size≤k
theorem Moved.refl (R:Nat→Role)(w:World):Moved R w R w:=⟨Keep.refl _ _,fun _ h=>.inl h⟩
theorem Moved.trans {R R' R2:Nat→Role}{w w' w2:World}(h:Moved R w R' w')(k:Moved R' w' R2 w2):Moved R w R2 w2 :=
 ⟨h.k.then_ k.k fun i hi hn=>(h.r i hn).elim id fun hge=>absurd hi (by omega),fun i hi=>(k.r i hi).elim (h.r i) fun hge=>.inr (Nat.le_trans h.k.size hge)⟩
theorem Moved.below {R R':Nat→Role}{w w' w2:World}(h:Moved R w R' w')(hb:Below w'.heap.size w' w2):Moved R w R' w2:=h.trans ⟨Keep.of_belowAll _ hb,fun _ h=>.inl h⟩
theorem Moved.keep {R R':Nat→Role}{w w' w2:World}{T:Nat→Prop}(h:Moved R w R' w')(hk:Keep T w' w2)(hT:∀ k,T k→R' k≠.no):Moved R w R' w2:=h.trans ⟨hk.mono hT,fun _ h=>.inl h⟩
theorem Moved.roles {R R' R2:Nat→Role}{w w':World}(h:Moved R w R' w')(hr:∀ k,R2 k≠.no→R' k≠.no∨w.heap.size≤k):Moved R w R2 w':=⟨h.k,fun k hk=>(hr k hk).elim (h.r k) .inr⟩
theorem heap_set_at {w:World}{b i:Nat}{cs:Array Value}{t:TypeId}(h:w.heap[b]?=some (.cells cs t (0,0)))(u:Value):(w.setCell ⟨b,i,none⟩ u).heap[b]?=some (.cells (cs.setIfInBounds i u) t (0,0)):=by
 simp [World.setCell,Array.getElem?_modify,h]
structure MachO (m:Mc) (R:Nat→Role) (w:World) (vc vt vl:Value) (s:Sys) (ts:List TV) (es:List EV):Prop where
 blk:w.heap[m.g]?=some (.cells #[.slice m.P m.p.cells.length m.cp,.slice m.Q m.p.bodies.length m.cq,vc,vt,.int .i64 s.clock,vl] m.T (0,0))
 run:R m.g=.run
 sys:SysO R w m.base vc vt vl s ts es
 prg:Row (Kd.slice kAct) w (fun k=>k<m.base) m.Q m.p.bodies
 mv:Moved m.R0 m.w0 R w
def Mach (m:Mc) (s:Sys) (vt:Value) (w:World):Prop:=∃ R vc vl ts es,MachO m R w vc vt vl s ts es
section
variable {m:Mc}{R R':Nat→Role}{w w' W:World}{vc vt vl:Value}{s:Sys}{ts:List TV}{es:List EV}{j:Nat}{x:TV}
theorem MachO.mach (h:MachO m R w vc vt vl s ts es):Mach m s vt w:=⟨R,vc,vl,ts,es,h⟩
theorem MachO.gl (h:MachO m R w vc vt vl s ts es):m.g<w.heap.size:=(Array.getElem?_eq_some_iff.1 h.blk).1
theorem MachO.ge (h:MachO m R w vc vt vl s ts es):m.base≤m.g:=h.sys.ge _ (by rw [h.run];exact Role.noConfusion)
theorem MachO.cell (h:MachO m R w vc vt vl s ts es)(i:Nat):w.cell? ⟨m.g,i,none⟩=(#[.slice m.P m.p.cells.length m.cp,.slice m.Q m.p.bodies.length m.cq,vc,vt,.int .i64 s.clock,vl]:Array Value)[i]?:=cell_of_row w m.g i _ _ _ h.blk
theorem MachO.frozen (h:MachO m R w vc vt vl s ts es)(i:Nat):w.frozen? ⟨m.g,i,none⟩=false:=frozen_of_row w m.g i _ _ h.blk
theorem MachO.cells (h:MachO m R w vc vt vl s ts es):w.cell? ⟨m.g,0,none⟩=some (.slice m.P m.p.cells.length m.cp)∧w.cell? ⟨m.g,1,none⟩=some (.slice m.Q m.p.bodies.length m.cq)∧w.cell? ⟨m.g,2,none⟩=some vc∧w.cell? ⟨m.g,3,none⟩=some vt∧w.cell? ⟨m.g,4,none⟩=some (.int .i64 s.clock)∧w.cell? ⟨m.g,5,none⟩=some vl :=
 ⟨h.cell 0,h.cell 1,h.cell 2,h.cell 3,h.cell 4,h.cell 5⟩
theorem MachO.below (h:MachO m R w vc vt vl s ts es)(hb:Below w.heap.size w w'):MachO m R w' vc vt vl s ts es :=
 ⟨(hb.block _ h.gl).trans h.blk,h.run,h.sys.below hb,h.prg.belowAll hb,h.mv.below hb⟩
theorem Mach.below (h:Mach m s vt w)(hb:Below w.heap.size w w'):Mach m s vt w':=by
 obtain⟨R,vc,vl,ts,es,h⟩:=h;exact(h.below hb).mach
theorem Mach.al (h:Mach m s vt w)(o:Obj):Mach m s vt (w.alloc o):=h.below ((Below.refl _ _).alloc (Nat.le_refl _) _)
theorem Mach.drewN (h:Mach m s vt w)(n:Nat):Mach m s vt (w.drewN n):=h.below ⟨rfl,rfl,rfl,Nat.le_refl _,fun _ _=>rfl⟩
theorem prg_keep {T:Nat→Prop}(h:MachO m R w vc vt vl s ts es)(hk:Keep T w W)(hT:∀ k,T k→m.base≤k):Row (Kd.slice kAct) W (fun k=>k<m.base) m.Q m.p.bodies:=h.prg.keep hk fun k h1 _ h2=>by have:=hT k h2;omega
theorem MachO.task (h:MachO m R w vc vt vl s ts es)(hj:j<s.tasks.length):∃ gt cap x,vt=.slice (some ⟨gt,0,none⟩) s.tasks.length cap∧s.tasks.length≤cap∧R gt=.tasks∧m.base≤gt∧gt<w.heap.size∧gt≠m.g∧ts[j]?=some x∧x.t=s.t j ∧
  TaskAt w ⟨gt,j*13,none⟩ (s.t j) x.r x.o x.d x.u∧(∀ i,w.frozen? ⟨gt,i,none⟩=false):=by
 obtain⟨x,hx,ht⟩:=h.sys.has hj
 obtain⟨gt,cap,rfl,hc,hR,hb,hl,_⟩:=h.sys.place hx
 have hn:=h.sys.n
 have hat:=own_taskAt h.sys.t rfl hx
 rw [ht] at hat
 refine⟨gt,cap,x,by rw [hn],by omega,hR,hb,hl,fun e=>?_,hx,ht,hat.1,hat.2⟩
 rw [e,h.run] at hR
 exact Role.noConfusion hR
theorem MachO.int {gt n cap:Nat}(h:MachO m R w vc (.slice (some ⟨gt,0,none⟩) n cap) vl s ts es)(hj:ts[j]?=some x)(i:Nat)(hi:i<13)(u:Int)(t':Task)(henc:encTask t' x.r x.o x.d x.u=(encTask x.t x.r x.o x.d x.u).set i (.int .i64 u))
  (hr:t'.regs=x.t.regs) (ho:t'.old=x.t.old) (hd:t'.reads=x.t.reads) (hu:t'.puts=x.t.puts) :
  MachO m R (w.setCell ⟨gt,j*13+i,none⟩ (.int .i64 u)) vc (.slice (some ⟨gt,0,none⟩) n cap) vl (s.setT j t') (ts.set j ⟨t',x.r,x.o,x.d,x.u⟩) es:=by
 have hRt:R gt=.tasks:=h.sys.Rt gt rfl
 have hjl:j<ts.length:=(List.getElem?_eq_some_iff.1 hj).1
 have hne:gt≠m.g:=fun e=>by rw [e,h.run] at hRt;exact Role.noConfusion hRt
 have hk:Keep (fun k=>k=gt) w (w.setCell ⟨gt,j*13+i,none⟩ (.int .i64 u)):=Keep.setCell (T:=fun k=>k=gt) (p:=⟨gt,j*13+i,none⟩) (Keep.refl _ w) (fun _=>rfl) _
 have hn:n=ts.length:=by obtain⟨A,c,e,_⟩:=Own.slice h.sys.t;injection e
 obtain⟨o1,o2,o3,o4⟩:=h.sys.one hj
 have hx:=h.sys.tt j x hj
 have hgt:gt<w.heap.size:=h.sys.lt gt (by rw [hRt];exact Role.noConfusion)
 refine⟨?_,h.run,?_,prg_keep h hk (fun k e=>by rw [e];exact h.sys.ge gt (by rw [hRt];exact Role.noConfusion)),h.mv.keep hk fun k e=>by rw [e,hRt];exact Role.noConfusion⟩
 ·exact(Below.heap_setCell w _ _ m.g (fun e=>hne e.symm)).trans h.blk
 ·refine h.sys.task (x':=⟨t',x.r,x.o,x.d,x.u⟩) hjl hk (fun k e=>.inl (by rw [e];exact hRt)) (fun _ _=>rfl) (fun k hk'=>⟨by simp;exact h.sys.lt k hk',h.sys.ge k hk'⟩) ?_ ?_
  ·refine OwnF.put (x:=x) ?_ hn hjl i hi _ _ henc o1 o2 o3 o4
   rw [set_self ts hj];exact h.sys.t
  ·have f:∀ {f k:Nat},R k=.tk j f→k≠gt:=fun e e2=>by rw [e2,hRt] at e;exact Role.noConfusion e
   exact⟨by show OwnF _ _ _ _ x.r t'.regs;rw [hr];exact hx.r.keep hk fun k e=>f (hx.Rr k e),by show OwnF _ _ _ _ x.o t'.old;rw [ho];exact hx.o.keep hk fun k e=>f (hx.Ro k e),by show OwnF _ _ _ _ x.d t'.reads;rw [hd];exact hx.d.keep hk fun k e=>f (hx.Rd k e),by show OwnF _ _ _ _ x.u t'.puts;rw [hu];exact hx.u.keep hk fun k e=>f (hx.Ru k e),hx.Rr,hx.Ro,hx.Rd,hx.Ru⟩
end
end Go.Proofs.YtjacjafmimgfcaaGreat
