/- A machine's rows are turned: a task's four rows, cells, the clock, the log, the tasks. (Made by tools/gen_K9.py.) -/
import Derived.Test.YtjacjafmimgfcaaGreatWak
set_option linter.unusedVariables false
set_option linter.unusedSimpArgs false
namespace Go.Proofs.YtjacjafmimgfcaaGreat
open Go.RowKit
section
variable {m:Mc}{R R':Nat→Role}{w w' W w1:World}{vc vt vl:Value}{s:Sys}{ts:List TV}{es:List EV}{j:Nat}{x:TV}{v':Value}{gt n cap:Nat}
theorem MachO.rowR (h:MachO m R w vc (.slice (some ⟨gt,0,none⟩) n cap) vl s ts es)(hj:ts[j]?=some x){xs':List Int}(hk:Keep (fun k=>x.r.ownBlock=some k) w w1)(ho:OwnF Kd.int 3 w1 m.base v' xs')(hv:∀ k,v'.ownBlock=some k→x.r.ownBlock=some k∨(R k=.no∧m.w0.heap.size≤k)) :
  ∃ R',MachO m R' (w1.setCell ⟨gt,j*13+3,none⟩ v') vc (.slice (some ⟨gt,0,none⟩) n cap) vl (s.setT j { x.t with regs:=xs' }) (ts.set j { x with t:={ x.t with regs:=xs' },r:=v' }) es:=by
 have hRt:R gt=.tasks:=h.sys.Rt gt rfl
 have hjl:j<ts.length:=(List.getElem?_eq_some_iff.1 hj).1
 have hn:n=ts.length:=by obtain⟨A,c,e,_⟩:=Own.slice h.sys.t;injection e
 have hx:=h.sys.tt j x hj
 have hold:∀ k,x.r.ownBlock=some k→R k=.tk j 0:=hx.Rr
 have hvr:∀ k,v'.ownBlock=some k→R k=.tk j 0∨R k=.no:=fun k e=>(hv k e).imp (hold k) (fun h=>h.1)
 have hR:∀ k,R k≠.no→(if v'.ownBlock=some k then Role.tk j 0 else R k)=R k:=fun k e=>by
  by_cases e2:v'.ownBlock=some k
  ·rw [if_pos e2];exact((hvr k e2).elim id (fun e3=>absurd e3 e)).symm
  ·rw [if_neg e2]
 have fv:∀ k,v'.ownBlock=some k→k≠gt:=fun k e e2=>by
  have:=hvr k e
  rw [e2,hRt] at this
  rcases this with e3 | e3<;>cases e3
 have hgo:∀ k,x.r.ownBlock=some k→k≠m.g:=fun k e e2=>by
  have:=hold k e
  rw [e2,h.run] at this
  cases this
 have hgt:gt≠m.g:=fun e=>by rw [e,h.run] at hRt;cases hRt
 have hk2:Keep (fun k=>k=gt∨x.r.ownBlock=some k) w (w1.setCell ⟨gt,j*13+3,none⟩ v'):=Keep.setCell (T:=fun k=>k=gt∨x.r.ownBlock=some k) (p:=⟨gt,j*13+3,none⟩) (hk.mono fun k e=>.inr e) (fun _=>.inl rfl) _
 have hlt:∀ k,(if v'.ownBlock=some k then Role.tk j 0 else R k)≠.no→k<(w1.setCell ⟨gt,j*13+3,none⟩ v').heap.size∧m.base≤k:=fun k e=>by
  by_cases e2:v'.ownBlock=some k
  ·have:=ho.blk k e2;simp;omega
  ·rw [if_neg e2] at e;have h1:=h.sys.lt k e;have h2:=h.sys.ge k e;have h3:=hk.size;simp;omega
 obtain⟨o1,o2,o3,o4⟩:=h.sys.one hj
 refine⟨fun k=>if v'.ownBlock=some k then .tk j 0 else R k,?_,?_,?_,?_,?_⟩
 ·exact(Below.heap_setCell w1 _ _ m.g (fun e=>hgt e.symm)).trans ((hk.blk h.blk (fun e=>hgo _ e rfl)))
 ·show (if v'.ownBlock=some m.g then Role.tk j 0 else R m.g)=.run
  rw [hR m.g (by rw [h.run];exact Role.noConfusion)];exact h.run
 ·refine h.sys.task (x':={ x with t:={ x.t with regs:=xs' },r:=v' }) hjl hk2 (fun k e=>e.elim (fun e=>.inl (by rw [e];exact hRt)) fun e=>.inr ⟨0,hold k e⟩) hR hlt ?_ ?_
  ·refine OwnF.put (x:=x) ?_ hn hjl 3 (by omega) _ _ rfl ho.one o2 o3 o4
   rw [set_self ts hj]
   exact h.sys.t.keep hk fun k e e2=>by
    have a:=hold k e2
    rw [h.sys.Rt k e] at a
    cases a
  ·exact⟨(ho.far (p:=⟨gt,j*13+3,none⟩) (fun k e=>fv k e) v'),((hx.o.keep hk fun k e e2=>by have a:=hx.Ro k e;have b:=hx.Rr k e2;rw [a] at b;cases b).far (p:=⟨gt,j*13+3,none⟩) (fun k e e2=>by have a:=hx.Ro k e;rw [show k=gt from e2,hRt] at a;cases a) v'),((hx.d.keep hk fun k e e2=>by have a:=hx.Rd k e;have b:=hx.Rr k e2;rw [a] at b;cases b).far (p:=⟨gt,j*13+3,none⟩) (fun k e e2=>by have a:=hx.Rd k e;rw [show k=gt from e2,hRt] at a;cases a) v'),((hx.u.keep hk fun k e e2=>by have a:=hx.Ru k e;have b:=hx.Rr k e2;rw [a] at b;cases b).far (p:=⟨gt,j*13+3,none⟩) (fun k e e2=>by have a:=hx.Ru k e;rw [show k=gt from e2,hRt] at a;cases a) v'),fun k e=>if_pos e,fun k e=>(hR k (by rw [hx.Ro k e];exact Role.noConfusion)).trans (hx.Ro k e),fun k e=>(hR k (by rw [hx.Rd k e];exact Role.noConfusion)).trans (hx.Rd k e),fun k e=>(hR k (by rw [hx.Ru k e];exact Role.noConfusion)).trans (hx.Ru k e)⟩
 ·exact prg_keep h hk2 fun k e=>e.elim (fun e=>by rw [e];exact h.sys.ge gt (by rw [hRt];exact Role.noConfusion)) fun e=>h.sys.ge k (by rw [hold k e];exact Role.noConfusion)
 ·refine(h.mv.keep hk2 fun k e=>e.elim (fun e=>by rw [e,hRt];exact Role.noConfusion) fun e=>by rw [hold k e];exact Role.noConfusion).roles fun k e=>?_
  by_cases e2:v'.ownBlock=some k
  ·rcases hv k e2 with e3 | e3
   ·left;rw [hold k e3];exact Role.noConfusion
   ·right;exact e3.2
  ·rw [if_neg e2] at e;exact .inl e
theorem MachO.rowO (h:MachO m R w vc (.slice (some ⟨gt,0,none⟩) n cap) vl s ts es)(hj:ts[j]?=some x){xs':List Int}(hk:Keep (fun k=>x.o.ownBlock=some k) w w1)(ho:OwnF Kd.int 3 w1 m.base v' xs')(hv:∀ k,v'.ownBlock=some k→x.o.ownBlock=some k∨(R k=.no∧m.w0.heap.size≤k)) :
  ∃ R',MachO m R' (w1.setCell ⟨gt,j*13+8,none⟩ v') vc (.slice (some ⟨gt,0,none⟩) n cap) vl (s.setT j { x.t with old:=xs' }) (ts.set j { x with t:={ x.t with old:=xs' },o:=v' }) es:=by
 have hRt:R gt=.tasks:=h.sys.Rt gt rfl
 have hjl:j<ts.length:=(List.getElem?_eq_some_iff.1 hj).1
 have hn:n=ts.length:=by obtain⟨A,c,e,_⟩:=Own.slice h.sys.t;injection e
 have hx:=h.sys.tt j x hj
 have hold:∀ k,x.o.ownBlock=some k→R k=.tk j 1:=hx.Ro
 have hvr:∀ k,v'.ownBlock=some k→R k=.tk j 1∨R k=.no:=fun k e=>(hv k e).imp (hold k) (fun h=>h.1)
 have hR:∀ k,R k≠.no→(if v'.ownBlock=some k then Role.tk j 1 else R k)=R k:=fun k e=>by
  by_cases e2:v'.ownBlock=some k
  ·rw [if_pos e2];exact((hvr k e2).elim id (fun e3=>absurd e3 e)).symm
  ·rw [if_neg e2]
 have fv:∀ k,v'.ownBlock=some k→k≠gt:=fun k e e2=>by
  have:=hvr k e
  rw [e2,hRt] at this
  rcases this with e3 | e3<;>cases e3
 have hgo:∀ k,x.o.ownBlock=some k→k≠m.g:=fun k e e2=>by
  have:=hold k e
  rw [e2,h.run] at this
  cases this
 have hgt:gt≠m.g:=fun e=>by rw [e,h.run] at hRt;cases hRt
 have hk2:Keep (fun k=>k=gt∨x.o.ownBlock=some k) w (w1.setCell ⟨gt,j*13+8,none⟩ v'):=Keep.setCell (T:=fun k=>k=gt∨x.o.ownBlock=some k) (p:=⟨gt,j*13+8,none⟩) (hk.mono fun k e=>.inr e) (fun _=>.inl rfl) _
 have hlt:∀ k,(if v'.ownBlock=some k then Role.tk j 1 else R k)≠.no→k<(w1.setCell ⟨gt,j*13+8,none⟩ v').heap.size∧m.base≤k:=fun k e=>by
  by_cases e2:v'.ownBlock=some k
  ·have:=ho.blk k e2;simp;omega
  ·rw [if_neg e2] at e;have h1:=h.sys.lt k e;have h2:=h.sys.ge k e;have h3:=hk.size;simp;omega
 obtain⟨o1,o2,o3,o4⟩:=h.sys.one hj
 refine⟨fun k=>if v'.ownBlock=some k then .tk j 1 else R k,?_,?_,?_,?_,?_⟩
 ·exact(Below.heap_setCell w1 _ _ m.g (fun e=>hgt e.symm)).trans ((hk.blk h.blk (fun e=>hgo _ e rfl)))
 ·show (if v'.ownBlock=some m.g then Role.tk j 1 else R m.g)=.run
  rw [hR m.g (by rw [h.run];exact Role.noConfusion)];exact h.run
 ·refine h.sys.task (x':={ x with t:={ x.t with old:=xs' },o:=v' }) hjl hk2 (fun k e=>e.elim (fun e=>.inl (by rw [e];exact hRt)) fun e=>.inr ⟨1,hold k e⟩) hR hlt ?_ ?_
  ·refine OwnF.put (x:=x) ?_ hn hjl 8 (by omega) _ _ rfl o1 ho.one o3 o4
   rw [set_self ts hj]
   exact h.sys.t.keep hk fun k e e2=>by
    have a:=hold k e2
    rw [h.sys.Rt k e] at a
    cases a
  ·exact⟨((hx.r.keep hk fun k e e2=>by have a:=hx.Rr k e;have b:=hx.Ro k e2;rw [a] at b;cases b).far (p:=⟨gt,j*13+8,none⟩) (fun k e e2=>by have a:=hx.Rr k e;rw [show k=gt from e2,hRt] at a;cases a) v'),(ho.far (p:=⟨gt,j*13+8,none⟩) (fun k e=>fv k e) v'),((hx.d.keep hk fun k e e2=>by have a:=hx.Rd k e;have b:=hx.Ro k e2;rw [a] at b;cases b).far (p:=⟨gt,j*13+8,none⟩) (fun k e e2=>by have a:=hx.Rd k e;rw [show k=gt from e2,hRt] at a;cases a) v'),((hx.u.keep hk fun k e e2=>by have a:=hx.Ru k e;have b:=hx.Ro k e2;rw [a] at b;cases b).far (p:=⟨gt,j*13+8,none⟩) (fun k e e2=>by have a:=hx.Ru k e;rw [show k=gt from e2,hRt] at a;cases a) v'),fun k e=>(hR k (by rw [hx.Rr k e];exact Role.noConfusion)).trans (hx.Rr k e),fun k e=>if_pos e,fun k e=>(hR k (by rw [hx.Rd k e];exact Role.noConfusion)).trans (hx.Rd k e),fun k e=>(hR k (by rw [hx.Ru k e];exact Role.noConfusion)).trans (hx.Ru k e)⟩
 ·exact prg_keep h hk2 fun k e=>e.elim (fun e=>by rw [e];exact h.sys.ge gt (by rw [hRt];exact Role.noConfusion)) fun e=>h.sys.ge k (by rw [hold k e];exact Role.noConfusion)
 ·refine(h.mv.keep hk2 fun k e=>e.elim (fun e=>by rw [e,hRt];exact Role.noConfusion) fun e=>by rw [hold k e];exact Role.noConfusion).roles fun k e=>?_
  by_cases e2:v'.ownBlock=some k
  ·rcases hv k e2 with e3 | e3
   ·left;rw [hold k e3];exact Role.noConfusion
   ·right;exact e3.2
  ·rw [if_neg e2] at e;exact .inl e
theorem MachO.rowD (h:MachO m R w vc (.slice (some ⟨gt,0,none⟩) n cap) vl s ts es)(hj:ts[j]?=some x){xs':List Put}(hk:Keep (fun k=>x.d.ownBlock=some k) w w1)(ho:OwnF kPut 127 w1 m.base v' xs')(hv:∀ k,v'.ownBlock=some k→x.d.ownBlock=some k∨(R k=.no∧m.w0.heap.size≤k)) :
  ∃ R',MachO m R' (w1.setCell ⟨gt,j*13+9,none⟩ v') vc (.slice (some ⟨gt,0,none⟩) n cap) vl (s.setT j { x.t with reads:=xs' }) (ts.set j { x with t:={ x.t with reads:=xs' },d:=v' }) es:=by
 have hRt:R gt=.tasks:=h.sys.Rt gt rfl
 have hjl:j<ts.length:=(List.getElem?_eq_some_iff.1 hj).1
 have hn:n=ts.length:=by obtain⟨A,c,e,_⟩:=Own.slice h.sys.t;injection e
 have hx:=h.sys.tt j x hj
 have hold:∀ k,x.d.ownBlock=some k→R k=.tk j 2:=hx.Rd
 have hvr:∀ k,v'.ownBlock=some k→R k=.tk j 2∨R k=.no:=fun k e=>(hv k e).imp (hold k) (fun h=>h.1)
 have hR:∀ k,R k≠.no→(if v'.ownBlock=some k then Role.tk j 2 else R k)=R k:=fun k e=>by
  by_cases e2:v'.ownBlock=some k
  ·rw [if_pos e2];exact((hvr k e2).elim id (fun e3=>absurd e3 e)).symm
  ·rw [if_neg e2]
 have fv:∀ k,v'.ownBlock=some k→k≠gt:=fun k e e2=>by
  have:=hvr k e
  rw [e2,hRt] at this
  rcases this with e3 | e3<;>cases e3
 have hgo:∀ k,x.d.ownBlock=some k→k≠m.g:=fun k e e2=>by
  have:=hold k e
  rw [e2,h.run] at this
  cases this
 have hgt:gt≠m.g:=fun e=>by rw [e,h.run] at hRt;cases hRt
 have hk2:Keep (fun k=>k=gt∨x.d.ownBlock=some k) w (w1.setCell ⟨gt,j*13+9,none⟩ v'):=Keep.setCell (T:=fun k=>k=gt∨x.d.ownBlock=some k) (p:=⟨gt,j*13+9,none⟩) (hk.mono fun k e=>.inr e) (fun _=>.inl rfl) _
 have hlt:∀ k,(if v'.ownBlock=some k then Role.tk j 2 else R k)≠.no→k<(w1.setCell ⟨gt,j*13+9,none⟩ v').heap.size∧m.base≤k:=fun k e=>by
  by_cases e2:v'.ownBlock=some k
  ·have:=ho.blk k e2;simp;omega
  ·rw [if_neg e2] at e;have h1:=h.sys.lt k e;have h2:=h.sys.ge k e;have h3:=hk.size;simp;omega
 obtain⟨o1,o2,o3,o4⟩:=h.sys.one hj
 refine⟨fun k=>if v'.ownBlock=some k then .tk j 2 else R k,?_,?_,?_,?_,?_⟩
 ·exact(Below.heap_setCell w1 _ _ m.g (fun e=>hgt e.symm)).trans ((hk.blk h.blk (fun e=>hgo _ e rfl)))
 ·show (if v'.ownBlock=some m.g then Role.tk j 2 else R m.g)=.run
  rw [hR m.g (by rw [h.run];exact Role.noConfusion)];exact h.run
 ·refine h.sys.task (x':={ x with t:={ x.t with reads:=xs' },d:=v' }) hjl hk2 (fun k e=>e.elim (fun e=>.inl (by rw [e];exact hRt)) fun e=>.inr ⟨2,hold k e⟩) hR hlt ?_ ?_
  ·refine OwnF.put (x:=x) ?_ hn hjl 9 (by omega) _ _ rfl o1 o2 ho.one o4
   rw [set_self ts hj]
   exact h.sys.t.keep hk fun k e e2=>by
    have a:=hold k e2
    rw [h.sys.Rt k e] at a
    cases a
  ·exact⟨((hx.r.keep hk fun k e e2=>by have a:=hx.Rr k e;have b:=hx.Rd k e2;rw [a] at b;cases b).far (p:=⟨gt,j*13+9,none⟩) (fun k e e2=>by have a:=hx.Rr k e;rw [show k=gt from e2,hRt] at a;cases a) v'),((hx.o.keep hk fun k e e2=>by have a:=hx.Ro k e;have b:=hx.Rd k e2;rw [a] at b;cases b).far (p:=⟨gt,j*13+9,none⟩) (fun k e e2=>by have a:=hx.Ro k e;rw [show k=gt from e2,hRt] at a;cases a) v'),(ho.far (p:=⟨gt,j*13+9,none⟩) (fun k e=>fv k e) v'),((hx.u.keep hk fun k e e2=>by have a:=hx.Ru k e;have b:=hx.Rd k e2;rw [a] at b;cases b).far (p:=⟨gt,j*13+9,none⟩) (fun k e e2=>by have a:=hx.Ru k e;rw [show k=gt from e2,hRt] at a;cases a) v'),fun k e=>(hR k (by rw [hx.Rr k e];exact Role.noConfusion)).trans (hx.Rr k e),fun k e=>(hR k (by rw [hx.Ro k e];exact Role.noConfusion)).trans (hx.Ro k e),fun k e=>if_pos e,fun k e=>(hR k (by rw [hx.Ru k e];exact Role.noConfusion)).trans (hx.Ru k e)⟩
 ·exact prg_keep h hk2 fun k e=>e.elim (fun e=>by rw [e];exact h.sys.ge gt (by rw [hRt];exact Role.noConfusion)) fun e=>h.sys.ge k (by rw [hold k e];exact Role.noConfusion)
 ·refine(h.mv.keep hk2 fun k e=>e.elim (fun e=>by rw [e,hRt];exact Role.noConfusion) fun e=>by rw [hold k e];exact Role.noConfusion).roles fun k e=>?_
  by_cases e2:v'.ownBlock=some k
  ·rcases hv k e2 with e3 | e3
   ·left;rw [hold k e3];exact Role.noConfusion
   ·right;exact e3.2
  ·rw [if_neg e2] at e;exact .inl e
theorem MachO.rowU (h:MachO m R w vc (.slice (some ⟨gt,0,none⟩) n cap) vl s ts es)(hj:ts[j]?=some x){xs':List Put}(hk:Keep (fun k=>x.u.ownBlock=some k) w w1)(ho:OwnF kPut 127 w1 m.base v' xs')(hv:∀ k,v'.ownBlock=some k→x.u.ownBlock=some k∨(R k=.no∧m.w0.heap.size≤k)) :
  ∃ R',MachO m R' (w1.setCell ⟨gt,j*13+10,none⟩ v') vc (.slice (some ⟨gt,0,none⟩) n cap) vl (s.setT j { x.t with puts:=xs' }) (ts.set j { x with t:={ x.t with puts:=xs' },u:=v' }) es:=by
 have hRt:R gt=.tasks:=h.sys.Rt gt rfl
 have hjl:j<ts.length:=(List.getElem?_eq_some_iff.1 hj).1
 have hn:n=ts.length:=by obtain⟨A,c,e,_⟩:=Own.slice h.sys.t;injection e
 have hx:=h.sys.tt j x hj
 have hold:∀ k,x.u.ownBlock=some k→R k=.tk j 3:=hx.Ru
 have hvr:∀ k,v'.ownBlock=some k→R k=.tk j 3∨R k=.no:=fun k e=>(hv k e).imp (hold k) (fun h=>h.1)
 have hR:∀ k,R k≠.no→(if v'.ownBlock=some k then Role.tk j 3 else R k)=R k:=fun k e=>by
  by_cases e2:v'.ownBlock=some k
  ·rw [if_pos e2];exact((hvr k e2).elim id (fun e3=>absurd e3 e)).symm
  ·rw [if_neg e2]
 have fv:∀ k,v'.ownBlock=some k→k≠gt:=fun k e e2=>by
  have:=hvr k e
  rw [e2,hRt] at this
  rcases this with e3 | e3<;>cases e3
 have hgo:∀ k,x.u.ownBlock=some k→k≠m.g:=fun k e e2=>by
  have:=hold k e
  rw [e2,h.run] at this
  cases this
 have hgt:gt≠m.g:=fun e=>by rw [e,h.run] at hRt;cases hRt
 have hk2:Keep (fun k=>k=gt∨x.u.ownBlock=some k) w (w1.setCell ⟨gt,j*13+10,none⟩ v'):=Keep.setCell (T:=fun k=>k=gt∨x.u.ownBlock=some k) (p:=⟨gt,j*13+10,none⟩) (hk.mono fun k e=>.inr e) (fun _=>.inl rfl) _
 have hlt:∀ k,(if v'.ownBlock=some k then Role.tk j 3 else R k)≠.no→k<(w1.setCell ⟨gt,j*13+10,none⟩ v').heap.size∧m.base≤k:=fun k e=>by
  by_cases e2:v'.ownBlock=some k
  ·have:=ho.blk k e2;simp;omega
  ·rw [if_neg e2] at e;have h1:=h.sys.lt k e;have h2:=h.sys.ge k e;have h3:=hk.size;simp;omega
 obtain⟨o1,o2,o3,o4⟩:=h.sys.one hj
 refine⟨fun k=>if v'.ownBlock=some k then .tk j 3 else R k,?_,?_,?_,?_,?_⟩
 ·exact(Below.heap_setCell w1 _ _ m.g (fun e=>hgt e.symm)).trans ((hk.blk h.blk (fun e=>hgo _ e rfl)))
 ·show (if v'.ownBlock=some m.g then Role.tk j 3 else R m.g)=.run
  rw [hR m.g (by rw [h.run];exact Role.noConfusion)];exact h.run
 ·refine h.sys.task (x':={ x with t:={ x.t with puts:=xs' },u:=v' }) hjl hk2 (fun k e=>e.elim (fun e=>.inl (by rw [e];exact hRt)) fun e=>.inr ⟨3,hold k e⟩) hR hlt ?_ ?_
  ·refine OwnF.put (x:=x) ?_ hn hjl 10 (by omega) _ _ rfl o1 o2 o3 ho.one
   rw [set_self ts hj]
   exact h.sys.t.keep hk fun k e e2=>by
    have a:=hold k e2
    rw [h.sys.Rt k e] at a
    cases a
  ·exact⟨((hx.r.keep hk fun k e e2=>by have a:=hx.Rr k e;have b:=hx.Ru k e2;rw [a] at b;cases b).far (p:=⟨gt,j*13+10,none⟩) (fun k e e2=>by have a:=hx.Rr k e;rw [show k=gt from e2,hRt] at a;cases a) v'),((hx.o.keep hk fun k e e2=>by have a:=hx.Ro k e;have b:=hx.Ru k e2;rw [a] at b;cases b).far (p:=⟨gt,j*13+10,none⟩) (fun k e e2=>by have a:=hx.Ro k e;rw [show k=gt from e2,hRt] at a;cases a) v'),((hx.d.keep hk fun k e e2=>by have a:=hx.Rd k e;have b:=hx.Ru k e2;rw [a] at b;cases b).far (p:=⟨gt,j*13+10,none⟩) (fun k e e2=>by have a:=hx.Rd k e;rw [show k=gt from e2,hRt] at a;cases a) v'),(ho.far (p:=⟨gt,j*13+10,none⟩) (fun k e=>fv k e) v'),fun k e=>(hR k (by rw [hx.Rr k e];exact Role.noConfusion)).trans (hx.Rr k e),fun k e=>(hR k (by rw [hx.Ro k e];exact Role.noConfusion)).trans (hx.Ro k e),fun k e=>(hR k (by rw [hx.Rd k e];exact Role.noConfusion)).trans (hx.Rd k e),fun k e=>if_pos e⟩
 ·exact prg_keep h hk2 fun k e=>e.elim (fun e=>by rw [e];exact h.sys.ge gt (by rw [hRt];exact Role.noConfusion)) fun e=>h.sys.ge k (by rw [hold k e];exact Role.noConfusion)
 ·refine(h.mv.keep hk2 fun k e=>e.elim (fun e=>by rw [e,hRt];exact Role.noConfusion) fun e=>by rw [hold k e];exact Role.noConfusion).roles fun k e=>?_
  by_cases e2:v'.ownBlock=some k
  ·rcases hv k e2 with e3 | e3
   ·left;rw [hold k e3];exact Role.noConfusion
   ·right;exact e3.2
  ·rw [if_neg e2] at e;exact .inl e
theorem MachO.fresh (h:MachO m R w vc vt vl s ts es){k:Nat}(hk:w.heap.size≤k):R k=.no∧m.w0.heap.size≤k :=
 ⟨Classical.byContradiction fun h2=>by have:=h.sys.lt k h2;omega,by have:=h.mv.k.size;omega⟩
theorem MachO.same (h:MachO m R w vc (.slice (some ⟨gt,0,none⟩) n cap) vl s ts es)(hj:ts[j]?=some x)(i:Nat)(hi:i<13)(u:Value)(hu:x.enc[i]?=some u) :
  MachO m R (w.setCell ⟨gt,j*13+i,none⟩ u) vc (.slice (some ⟨gt,0,none⟩) n cap) vl s ts es:=by
 have hRt:R gt=.tasks:=h.sys.Rt gt rfl
 have hjl:j<ts.length:=(List.getElem?_eq_some_iff.1 hj).1
 have hne:gt≠m.g:=fun e=>by rw [e,h.run] at hRt;exact Role.noConfusion hRt
 have hk:Keep (fun k=>k=gt) w (w.setCell ⟨gt,j*13+i,none⟩ u):=Keep.setCell (T:=fun k=>k=gt) (p:=⟨gt,j*13+i,none⟩) (Keep.refl _ w) (fun _=>rfl) _
 have hn:n=ts.length:=by obtain⟨A,c,e,_⟩:=Own.slice h.sys.t;injection e
 obtain⟨o1,o2,o3,o4⟩:=h.sys.one hj
 have f:∀ k r,R k=r→r≠.tasks→¬ (k=gt):=fun k r e hr e2=>hr (by rw [← e,e2,hRt])
 refine⟨(Below.heap_setCell w _ _ m.g (fun e=>hne e.symm)).trans h.blk,h.run,?_,prg_keep h hk (fun k e=>by rw [e];exact h.sys.ge gt (by rw [hRt];exact Role.noConfusion)),h.mv.keep hk fun k e=>by rw [e,hRt];exact Role.noConfusion⟩
 refine⟨h.sys.ets,h.sys.ees,h.sys.c.keep hk fun k e=>f k _ (h.sys.Rc k e) Role.noConfusion,?_,h.sys.l.keep hk fun k e=>f k _ (h.sys.Rl k e) Role.noConfusion,h.sys.Rc,h.sys.Rt,h.sys.Rl,fun i y hi=>(h.sys.tt i y hi).keep hk fun q k e=>f k _ e Role.noConfusion,fun i y hi=>(h.sys.ee i y hi).keep hk fun q k e=>f k _ e Role.noConfusion,fun k e=>by simp;exact h.sys.lt k e,h.sys.ge⟩
 have:=OwnF.put (x:=x) (by rw [set_self ts hj];exact h.sys.t) hn hjl i hi u x (by
  refine List.ext_getElem? fun q=>?_
  rw [List.getElem?_set]
  by_cases e:i=q
  ·subst e;rw [if_pos rfl,hu];rw [if_pos (List.getElem?_eq_some_iff.1 hu).1]
  ·rw [if_neg e]) o1 o2 o3 o4
 rw [set_self ts hj] at this
 exact this
theorem MachO.regs (h:MachO m R w vc vt vl s ts es)(hj:ts[j]?=some x){xs':List Int}(hk:Keep (fun k=>x.r.ownBlock=some k) w w1)(ho:OwnF Kd.int 3 w1 m.base x.r xs') :
  MachO m R w1 vc vt vl (s.setT j { x.t with regs:=xs' }) (ts.set j { x with t:={ x.t with regs:=xs' } }) es:=by
 have hjl:j<ts.length:=(List.getElem?_eq_some_iff.1 hj).1
 have hx:=h.sys.tt j x hj
 have hold:∀ k,x.r.ownBlock=some k→R k=.tk j 0:=hx.Rr
 obtain⟨g,c,rfl,_,_,_⟩:=h.sys.place hj
 obtain⟨o1,o2,o3,o4⟩:=h.sys.one hj
 refine⟨hk.blk h.blk (fun e=>by have:=hold _ e;rw [h.run] at this;cases this),h.run,?_,prg_keep h hk fun k e=>h.sys.ge k (by rw [hold k e];exact Role.noConfusion),h.mv.keep hk fun k e=>by rw [hold k e];exact Role.noConfusion⟩
 refine h.sys.task (x':={ x with t:={ x.t with regs:=xs' } }) hjl hk (fun k e=>.inr ⟨0,hold k e⟩) (fun _ _=>rfl) (fun k e=>⟨Nat.lt_of_lt_of_le (h.sys.lt k e) hk.size,h.sys.ge k e⟩) ?_ ?_
 ·refine OwnF.same (x:=x) ?_ hjl rfl o1 o2 o3 o4
  rw [set_self ts hj]
  exact h.sys.t.keep hk fun k e e2=>by have a:=hold k e2;rw [h.sys.Rt k e] at a;cases a
 ·exact⟨ho,hx.o.keep hk fun k e e2=>(by have a:=hx.Ro k e;have b:=hold k e2;rw [a] at b;cases b),hx.d.keep hk fun k e e2=>(by have a:=hx.Rd k e;have b:=hold k e2;rw [a] at b;cases b),hx.u.keep hk fun k e e2=>(by have a:=hx.Ru k e;have b:=hold k e2;rw [a] at b;cases b),hx.Rr,hx.Ro,hx.Rd,hx.Ru⟩
theorem MachO.cs (h:MachO m R w vc vt vl s ts es){cs':List Cell}(hk:Keep (fun k=>vc.ownBlock=some k) w w1)(ho:OwnF kCell 130 w1 m.base vc cs') :
  MachO m R w1 vc vt vl { s with cells:=cs' } ts es:=by
 have hold:∀ k,vc.ownBlock=some k→R k=.cells:=h.sys.Rc
 exact⟨hk.blk h.blk (fun e=>by have:=hold _ e;rw [h.run] at this;cases this),h.run,h.sys.cells hk hold ho,prg_keep h hk fun k e=>h.sys.ge k (by rw [hold k e];exact Role.noConfusion),h.mv.keep hk fun k e=>by rw [hold k e];exact Role.noConfusion⟩
theorem MachO.clk (h:MachO m R w vc vt vl s ts es)(c:Int):MachO m R (w.setCell ⟨m.g,4,none⟩ (.int .i64 c)) vc vt vl { s with clock:=c } ts es:=by
 have hk:Keep (fun k=>k=m.g) w (w.setCell ⟨m.g,4,none⟩ (.int .i64 c)):=Keep.setCell (T:=fun k=>k=m.g) (p:=⟨m.g,4,none⟩) (Keep.refl _ w) (fun _=>rfl) _
 have hb:=heap_set_at (i:=4) h.blk (.int .i64 c)
 have hne:∀ k r,R k=r→r≠.run→k≠m.g:=fun k r e hr e2=>hr (by rw [← e,e2,h.run])
 refine⟨by simpa using hb,h.run,?_,prg_keep h hk fun k e=>by rw [e];exact h.ge,h.mv.keep hk fun k e=>by rw [e,h.run];exact Role.noConfusion⟩
 have f:∀ k r,R k=r→r≠.run→¬ (k=m.g):=hne
 exact⟨h.sys.ets,h.sys.ees,h.sys.c.keep hk fun k e=>f k _ (h.sys.Rc k e) Role.noConfusion,h.sys.t.keep hk fun k e=>f k _ (h.sys.Rt k e) Role.noConfusion,h.sys.l.keep hk fun k e=>f k _ (h.sys.Rl k e) Role.noConfusion,h.sys.Rc,h.sys.Rt,h.sys.Rl,fun i y hi=>(h.sys.tt i y hi).keep hk fun q k e=>f k _ e Role.noConfusion,fun i y hi=>(h.sys.ee i y hi).keep hk fun q k e=>f k _ e Role.noConfusion,fun k e=>by simp;exact h.sys.lt k e,h.sys.ge⟩
theorem MachO.log (h:MachO m R w vc vt vl s ts es){vl' d u:Value}{e:Entry}(hk:Keep (fun k=>vl.ownBlock=some k) w w1)(hl:OwnF kEV 68 w1 m.base vl' (es ++ [⟨e,d,u⟩]))(hvl:∀ k,vl'.ownBlock=some k→vl.ownBlock=some k∨w.heap.size≤k)
  (hd:OwnF kPut 127 w1 m.base d e.reads) (hu:OwnF kPut 127 w1 m.base u e.puts) (hdn:∀ k,d.ownBlock=some k→R k=.no∧m.w0.heap.size≤k) (hun:∀ k,u.ownBlock=some k→R k=.no∧m.w0.heap.size≤k)
  (hdu:∀ k,d.ownBlock=some k→u.ownBlock≠some k) (hdl:∀ k,d.ownBlock=some k→vl'.ownBlock≠some k) (hul:∀ k,u.ownBlock=some k→vl'.ownBlock≠some k) :
  ∃ R',MachO m R' (w1.setCell ⟨m.g,5,none⟩ vl') vc vt vl' { s with log:=s.log ++ [e] } ts (es ++ [⟨e,d,u⟩]):=by
 have hold:∀ k,vl.ownBlock=some k→R k=.log:=h.sys.Rl
 have hfresh:∀ k,w.heap.size≤k→R k=.no:=fun k hk=>Classical.byContradiction fun h2=>by have:=h.sys.lt k h2;omega
 have hvr:∀ k,vl'.ownBlock=some k→R k=.log∨R k=.no:=fun k e=>(hvl k e).imp (hold k) (hfresh k)
 let R':Nat→Role:=fun k=>if vl'.ownBlock=some k then .log else if d.ownBlock=some k then .en es.length 0 else if u.ownBlock=some k then .en es.length 1 else R k
 have hR:∀ k,R k≠.no→R' k=R k:=fun k e=>by
  simp only [R']
  by_cases e2:vl'.ownBlock=some k
  ·rw [if_pos e2];exact((hvr k e2).elim id (fun e3=>absurd e3 e)).symm
  ·rw [if_neg e2,if_neg (fun e3=>e (hdn k e3).1),if_neg (fun e3=>e (hun k e3).1)]
 have hgo:∀ k,R k=.log∨R k=.no→k≠m.g:=fun k e e2=>by
  rw [e2,h.run] at e
  rcases e with e | e<;>cases e
 have hk2:Keep (fun k=>k=m.g∨vl.ownBlock=some k) w (w1.setCell ⟨m.g,5,none⟩ vl'):=Keep.setCell (T:=fun k=>k=m.g∨vl.ownBlock=some k) (p:=⟨m.g,5,none⟩) (hk.mono fun k e=>.inr e) (fun _=>.inl rfl) _
 have hb:=heap_set_at (i:=5) (hk.blk h.blk (fun e=>hgo _ (.inl (hold _ e)) rfl)) vl'
 have f:∀ k r,R k=r→r≠.run→r≠.log→¬ (k=m.g∨vl.ownBlock=some k):=fun k r e hr hr2 e2=>by
  rcases e2 with e2 | e2
  ·exact hr (by rw [← e,e2,h.run])
  ·exact hr2 (by rw [← e,hold k e2])
 have nr:∀ {r:Role} {k},R k=r→r≠.no→R' k=r:=fun e hr=>(hR _ (by rw [e];exact hr)).trans e
 refine⟨R',by simpa using hb,?_,?_,prg_keep h hk2 fun k e=>e.elim (fun e=>by rw [e];exact h.ge) fun e=>h.sys.ge k (by rw [hold k e];exact Role.noConfusion),(h.mv.keep hk2 fun k e=>e.elim (fun e=>by rw [e,h.run];exact Role.noConfusion) fun e=>by rw [hold k e];exact Role.noConfusion).roles fun k e=>?_⟩
 ·exact nr h.run Role.noConfusion
 ·refine⟨h.sys.ets,by rw [List.map_append,h.sys.ees];rfl,h.sys.c.keep hk2 fun k e=>f k _ (h.sys.Rc k e) Role.noConfusion Role.noConfusion,h.sys.t.keep hk2 fun k e=>f k _ (h.sys.Rt k e) Role.noConfusion Role.noConfusion,hl.far (fun k e=>hgo k (hvr k e)) _,fun k e=>nr (h.sys.Rc k e) Role.noConfusion,fun k e=>nr (h.sys.Rt k e) Role.noConfusion,fun k e=>if_pos e,fun i y hi=>?_,fun i y hi=>?_,fun k e=>?_,fun k e=>?_⟩
  ·exact TOwn.turn ((h.sys.tt i y hi).keep hk2 fun q k e=>f k _ e Role.noConfusion Role.noConfusion) hR
  ·rcases Nat.lt_or_ge i es.length with hlt | hge
   ·rw [List.getElem?_append_left hlt] at hi
    exact EOwn.turn ((h.sys.ee i y hi).keep hk2 fun q k e=>f k _ e Role.noConfusion Role.noConfusion) hR
   ·have hi0:i=es.length:=by
     have:=(List.getElem?_eq_some_iff.1 hi).1
     simp at this;omega
    subst hi0
    rw [List.getElem?_append_right (Nat.le_refl _)] at hi
    simp at hi
    subst hi
    refine⟨hd.far (fun k e=>hgo k (.inr (hdn k e).1)) _,hu.far (fun k e=>hgo k (.inr (hun k e).1)) _,fun k e=>?_,fun k e=>?_⟩
    ·simp only [R',if_neg (hdl k e),if_pos e]
    ·have:d.ownBlock≠some k:=fun e2=>hdu k e2 e
     simp only [R',if_neg (hul k e),if_neg this,if_pos e]
  all_goals
   simp only [R'] at e
   by_cases e1:vl'.ownBlock=some k
   ·have:=hl.blk k e1;simp;omega
   ·rw [if_neg e1] at e
    by_cases e2:d.ownBlock=some k
    ·have:=hd.blk k e2;simp;omega
    ·rw [if_neg e2] at e
     by_cases e3:u.ownBlock=some k
     ·have:=hu.blk k e3;simp;omega
     ·rw [if_neg e3] at e;have h1:=h.sys.lt k e;have h2:=h.sys.ge k e;have h3:=hk.size;simp;omega
 ·simp only [R'] at e
  by_cases e1:vl'.ownBlock=some k
  ·rcases hvl k e1 with e3 | e3
   ·left;rw [hold k e3];exact Role.noConfusion
   ·right;have:=h.mv.k.size;omega
  ·rw [if_neg e1] at e
   by_cases e2:d.ownBlock=some k
   ·exact .inr (hdn k e2).2
   ·rw [if_neg e2] at e
    by_cases e3:u.ownBlock=some k
    ·exact .inr (hun k e3).2
    ·rw [if_neg e3] at e;exact .inl e
theorem MachO.fork (h:MachO m R w vc vt vl s ts es){vt':Value}{y:TV}(hk:Keep (fun k=>vt.ownBlock=some k) w w1)(hl:OwnF kTV 118 w1 m.base vt' (ts ++ [y]))(hvl:∀ k,vt'.ownBlock=some k→vt.ownBlock=some k∨w.heap.size≤k)
  (hr:OwnF Kd.int 3 w1 m.base y.r y.t.regs) (ho:OwnF Kd.int 3 w1 m.base y.o y.t.old) (hd:OwnF kPut 127 w1 m.base y.d y.t.reads) (hu:OwnF kPut 127 w1 m.base y.u y.t.puts)
  (rn:∀ k,y.r.ownBlock=some k→R k=.no∧m.w0.heap.size≤k) (on:∀ k,y.o.ownBlock=some k→R k=.no∧m.w0.heap.size≤k) (dn:∀ k,y.d.ownBlock=some k→R k=.no∧m.w0.heap.size≤k) (un:∀ k,y.u.ownBlock=some k→R k=.no∧m.w0.heap.size≤k)
  (rl:∀ k,y.r.ownBlock=some k→vt'.ownBlock≠some k) (ol:∀ k,y.o.ownBlock=some k→vt'.ownBlock≠some k) (dl:∀ k,y.d.ownBlock=some k→vt'.ownBlock≠some k) (ul:∀ k,y.u.ownBlock=some k→vt'.ownBlock≠some k)
  (ro:∀ k,y.r.ownBlock=some k→y.o.ownBlock≠some k) (rd:∀ k,y.r.ownBlock=some k→y.d.ownBlock≠some k) (ru:∀ k,y.r.ownBlock=some k→y.u.ownBlock≠some k) (od:∀ k,y.o.ownBlock=some k→y.d.ownBlock≠some k) (ou:∀ k,y.o.ownBlock=some k→y.u.ownBlock≠some k) (du:∀ k,y.d.ownBlock=some k→y.u.ownBlock≠some k) :
  ∃ R',MachO m R' (w1.setCell ⟨m.g,3,none⟩ vt') vc vt' vl { s with tasks:=s.tasks ++ [y.t] } (ts ++ [y]) es:=by
 have hold:∀ k,vt.ownBlock=some k→R k=.tasks:=h.sys.Rt
 have hfresh:∀ k,w.heap.size≤k→R k=.no:=fun k hk=>Classical.byContradiction fun h2=>by have:=h.sys.lt k h2;omega
 have hvr:∀ k,vt'.ownBlock=some k→R k=.tasks∨R k=.no:=fun k e=>(hvl k e).imp (hold k) (hfresh k)
 let R':Nat→Role:=fun k=>if vt'.ownBlock=some k then .tasks else if y.r.ownBlock=some k then .tk ts.length 0 else if y.o.ownBlock=some k then .tk ts.length 1 else if y.d.ownBlock=some k then .tk ts.length 2 else if y.u.ownBlock=some k then .tk ts.length 3 else R k
 have hR:∀ k,R k≠.no→R' k=R k:=fun k e=>by
  simp only [R']
  by_cases e2:vt'.ownBlock=some k
  ·rw [if_pos e2];exact((hvr k e2).elim id (fun e3=>absurd e3 e)).symm
  ·rw [if_neg e2,if_neg (fun e3=>e (rn k e3).1),if_neg (fun e3=>e (on k e3).1),if_neg (fun e3=>e (dn k e3).1),if_neg (fun e3=>e (un k e3).1)]
 have hgo:∀ k,R k=.tasks∨R k=.no→k≠m.g:=fun k e e2=>by
  rw [e2,h.run] at e
  rcases e with e | e<;>cases e
 have hk2:Keep (fun k=>k=m.g∨vt.ownBlock=some k) w (w1.setCell ⟨m.g,3,none⟩ vt'):=Keep.setCell (T:=fun k=>k=m.g∨vt.ownBlock=some k) (p:=⟨m.g,3,none⟩) (hk.mono fun k e=>.inr e) (fun _=>.inl rfl) _
 have hb:=heap_set_at (i:=3) (hk.blk h.blk (fun e=>hgo _ (.inl (hold _ e)) rfl)) vt'
 have f:∀ k r,R k=r→r≠.run→r≠.tasks→¬ (k=m.g∨vt.ownBlock=some k):=fun k r e hr hr2 e2=>by
  rcases e2 with e2 | e2
  ·exact hr (by rw [← e,e2,h.run])
  ·exact hr2 (by rw [← e,hold k e2])
 have nr:∀ {r:Role} {k},R k=r→r≠.no→R' k=r:=fun e hr=>(hR _ (by rw [e];exact hr)).trans e
 refine⟨R',by simpa using hb,?_,?_,prg_keep h hk2 fun k e=>e.elim (fun e=>by rw [e];exact h.ge) fun e=>h.sys.ge k (by rw [hold k e];exact Role.noConfusion),(h.mv.keep hk2 fun k e=>e.elim (fun e=>by rw [e,h.run];exact Role.noConfusion) fun e=>by rw [hold k e];exact Role.noConfusion).roles fun k e=>?_⟩
 ·exact nr h.run Role.noConfusion
 ·refine⟨by rw [List.map_append,h.sys.ets];rfl,h.sys.ees,h.sys.c.keep hk2 fun k e=>f k _ (h.sys.Rc k e) Role.noConfusion Role.noConfusion,hl.far (fun k e=>hgo k (hvr k e)) _,h.sys.l.keep hk2 fun k e=>f k _ (h.sys.Rl k e) Role.noConfusion Role.noConfusion,fun k e=>nr (h.sys.Rc k e) Role.noConfusion,fun k e=>if_pos e,fun k e=>nr (h.sys.Rl k e) Role.noConfusion,fun i z hi=>?_,fun i z hi=>?_,fun k e=>?_,fun k e=>?_⟩
  ·rcases Nat.lt_or_ge i ts.length with hlt | hge
   ·rw [List.getElem?_append_left hlt] at hi
    exact TOwn.turn ((h.sys.tt i z hi).keep hk2 fun q k e=>f k _ e Role.noConfusion Role.noConfusion) hR
   ·have hi0:i=ts.length:=by
     have:=(List.getElem?_eq_some_iff.1 hi).1
     simp at this;omega
    subst hi0
    rw [List.getElem?_append_right (Nat.le_refl _)] at hi
    simp at hi
    subst hi
    refine⟨hr.far (fun k e=>hgo k (.inr (rn k e).1)) _,ho.far (fun k e=>hgo k (.inr (on k e).1)) _,hd.far (fun k e=>hgo k (.inr (dn k e).1)) _,hu.far (fun k e=>hgo k (.inr (un k e).1)) _,fun k e=>?_,fun k e=>?_,fun k e=>?_,fun k e=>?_⟩
    ·simp only [R',if_neg (rl k e),if_pos e]
    ·simp only [R',if_neg (ol k e),if_neg (fun e2=>ro k e2 e),if_pos e]
    ·simp only [R',if_neg (dl k e),if_neg (fun e2=>rd k e2 e),if_neg (fun e2=>od k e2 e),if_pos e]
    ·simp only [R',if_neg (ul k e),if_neg (fun e2=>ru k e2 e),if_neg (fun e2=>ou k e2 e),if_neg (fun e2=>du k e2 e),if_pos e]
  ·exact EOwn.turn ((h.sys.ee i z hi).keep hk2 fun q k e=>f k _ e Role.noConfusion Role.noConfusion) hR
  all_goals
   simp only [R'] at e
   by_cases e1:vt'.ownBlock=some k
   ·have:=hl.blk k e1;simp;omega
   ·rw [if_neg e1] at e
    by_cases e2:y.r.ownBlock=some k
    ·have:=hr.blk k e2;simp;omega
    ·rw [if_neg e2] at e
     by_cases e3:y.o.ownBlock=some k
     ·have:=ho.blk k e3;simp;omega
     ·rw [if_neg e3] at e
      by_cases e4:y.d.ownBlock=some k
      ·have:=hd.blk k e4;simp;omega
      ·rw [if_neg e4] at e
       by_cases e5:y.u.ownBlock=some k
       ·have:=hu.blk k e5;simp;omega
       ·rw [if_neg e5] at e;have h1:=h.sys.lt k e;have h2:=h.sys.ge k e;have h3:=hk.size;simp;omega
 ·simp only [R'] at e
  by_cases e1:vt'.ownBlock=some k
  ·rcases hvl k e1 with e3 | e3
   ·left;rw [hold k e3];exact Role.noConfusion
   ·right;have:=h.mv.k.size;omega
  ·rw [if_neg e1] at e
   by_cases e2:y.r.ownBlock=some k
   ·exact .inr (rn k e2).2
   ·rw [if_neg e2] at e
    by_cases e3:y.o.ownBlock=some k
    ·exact .inr (on k e3).2
    ·rw [if_neg e3] at e
     by_cases e4:y.d.ownBlock=some k
     ·exact .inr (dn k e4).2
     ·rw [if_neg e4] at e
      by_cases e5:y.u.ownBlock=some k
      ·exact .inr (un k e5).2
      ·rw [if_neg e5] at e;exact .inl e
end
end Go.Proofs.YtjacjafmimgfcaaGreat
