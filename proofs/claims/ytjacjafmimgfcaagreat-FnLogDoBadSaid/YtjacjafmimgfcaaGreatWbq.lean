/- The program's deeds at a desk.; The program does a change at once.; Two rows of numbers, the library's way; whether a change left what its puts say.; The program's LogDo: a system that is not in order. -/
import Derived.StillTailTactics
import Derived.Laws.EntriesVeiled
import Derived.Test.YtjacjafmimgfcaaGreatWac
import Derived.Test.YtjacjafmimgfcaaGreatWad
import Derived.Test.YtjacjafmimgfcaaGreatWas
import Derived.Test.YtjacjafmimgfcaaGreatWbk
import Derived.Test.YtjacjafmimgfcaaGreatWbp
set_option maxHeartbeats 2000000
set_option maxRecDepth 100000
set_option linter.unusedVariables false
set_option linter.unusedSimpArgs false
namespace Go.Proofs.YtjacjafmimgfcaaGreat
open Go.RowKit
structure DeskAt (w:World) (base g:Nat) (vc vr:Value) (c r:List Int):Prop where
 c0:w.cell? ⟨g,0,none⟩=some vc
 c1:w.cell? ⟨g,1,none⟩=some vr
 C:OwnI 3 w base vc c
 R:OwnI 3 w base vr r
 gc:∀ k,vc.ownBlock=some k→k≠g∧vr.ownBlock≠some k
 gr:∀ k,vr.ownBlock=some k→k≠g
 lt:g<w.heap.size
theorem DeskAt.keep {w w':World}{base g:Nat}{vc vr:Value}{c r:List Int}{T:Nat→Prop}(h:DeskAt w base g vc vr c r)(hk:Keep T w w')(hg:¬ T g)(hc:∀ k,vc.ownBlock=some k→¬ T k)(hr:∀ k,vr.ownBlock=some k→¬ T k):DeskAt w' base g vc vr c r :=
 ⟨(hk.cell (p:=⟨g,0,none⟩) h.lt hg).trans h.c0,(hk.cell (p:=⟨g,1,none⟩) h.lt hg).trans h.c1,h.C.keep hk hc,h.R.keep hk hr,h.gc,h.gr,Nat.lt_of_lt_of_le h.lt hk.size⟩
theorem DeskAt.setR {w:World}{base g gr:Nat}{vc:Value}{c r:List Int}{cap:Nat}(h:DeskAt w base g vc (.slice (some ⟨gr,0,none⟩) r.length cap) c r){j:Nat}(hj:j<r.length)(n:Int)(hn:isI n) :
  DeskAt (w.setCell ⟨gr,j,none⟩ (.int .i64 n)) base g vc (.slice (some ⟨gr,0,none⟩) r.length cap) c (r.set j n):=by
 have hgr:=h.gr gr rfl
 refine⟨?_,?_,h.C.far (fun k hk e=>(h.gc k hk).2 (by rw [e];rfl)) _,h.R.set_ hj n hn,h.gc,h.gr,by simpa [World.setCell] using h.lt⟩
 ·exact(World.cell?_of_block (w:=w) (Below.heap_setCell w _ _ g (fun e=>hgr e.symm))).trans h.c0
 ·exact(World.cell?_of_block (w:=w) (Below.heap_setCell w _ _ g (fun e=>hgr e.symm))).trans h.c1
theorem DeskAt.setC {w:World}{base g gc:Nat}{vr:Value}{c r:List Int}{cap:Nat}(h:DeskAt w base g (.slice (some ⟨gc,0,none⟩) c.length cap) vr c r){j:Nat}(hj:j<c.length)(n:Int)(hn:isI n) :
  DeskAt (w.setCell ⟨gc,j,none⟩ (.int .i64 n)) base g (.slice (some ⟨gc,0,none⟩) c.length cap) vr (c.set j n) r:=by
 have hgc:=(h.gc gc rfl)
 refine⟨?_,?_,h.C.set_ hj n hn,h.R.far (fun k hk e=>hgc.2 (by rw [hk,e])) _,h.gc,h.gr,by simpa [World.setCell] using h.lt⟩
 ·exact(World.cell?_of_block (w:=w) (Below.heap_setCell w _ _ g (fun e=>hgc.1 e.symm))).trans h.c0
 ·exact(World.cell?_of_block (w:=w) (Below.heap_setCell w _ _ g (fun e=>hgc.1 e.symm))).trans h.c1
def Did (res:Option (List Int × List Int)) (w:World) (base g:Nat) (vc vr:Value) (c r:List Int) (e:Ending) (w':World):Prop :=
 Keep (fun k=>vc.ownBlock=some k∨vr.ownBlock=some k) w w'∧match res with
 | none=>e=.returned (.bool false)∧DeskAt w' base g vc vr c r
 | some cr=>e=.returned (.bool true)∧DeskAt w' base g vc vr cr.1 cr.2
section
variable {w:World}{base g:Nat}{vc vr:Value}{c r:List Int}{n:Nat}
theorem does2 (h:DeskAt w base g vc vr c r)(hd:Desk n (c,r))(a b:Int)(ha:0≤a∧a≤2)(hb:0≤b∧b≤(n:Int)-1)(hn:n≤3) :
  Calls Tryz.prog 131 #[.pointer (some ⟨g,0,none⟩),.agg #[.int .i64 1,.int .i64 a,.int .i64 b]] w (Did (doDeed (c,r) ⟨1,a,b⟩) w base g vc vr c r):=by
 have hcl:c.length=n:=hd.cl
 have hrl:r.length=3:=hd.rl
 obtain⟨x,rfl⟩:=Int.eq_ofNat_of_zero_le ha.1
 obtain⟨y,rfl⟩:=Int.eq_ofNat_of_zero_le hb.1
 have hxl:x<r.length:=by omega
 have hyl:y<c.length:=by omega
 obtain⟨gr,cr,hvr,hgr1,hgr2⟩:=h.R.place (by omega)
 obtain⟨gc,cc,hvc,hgc1,hgc2⟩:=h.C.place (by omega)
 subst hvr;subst hvc
 have hdd:doDeed (c,r) ⟨1,(x:Int),(y:Int)⟩=some (c,r.set x c[y]):=by simp [doDeed,rdI,hyl]
 rw [hdd]
 have hcI:=h.C.all y hyl
 have hkw:∀ o,Keep (fun k=>some gc=some k∨some gr=some k) w (w.alloc o):=fun o=>(Keep.refl _ _).alloc o
 have h2:∀ o,DeskAt (w.alloc o) base g _ _ c r:=fun o=>h.keep (T:=fun _=>False) ((Keep.refl _ _).alloc o) (fun h=>h) (fun _ _ h=>h) (fun _ _ h=>h)
 clear hdd hd
 go_enter Tryz.func131,Tryz.ntmps131
 go_wp2
 obtain⟨W2,HW⟩:∃ W2,W2=w.alloc (Obj.cells #[.int .i64 1,.int .i64 (x:Nat),.int .i64 (y:Nat)] 124):=⟨_,rfl⟩
 have hk2:=hkw (Obj.cells #[.int .i64 1,.int .i64 (x:Nat),.int .i64 (y:Nat)] 124)
 have hd2:=h2 (Obj.cells #[.int .i64 1,.int .i64 (x:Nat),.int .i64 (y:Nat)] 124)
 rw [← HW] at hk2 hd2 ⊢
 have d0:W2.cell? ⟨w.heap.size,0,none⟩=some (.int .i64 1):=by rw [HW];simp [go_sem]
 have d1:W2.cell? ⟨w.heap.size,1,none⟩=some (.int .i64 (x:Nat)):=by rw [HW];simp [go_sem]
 have d2:W2.cell? ⟨w.heap.size,2,none⟩=some (.int .i64 (y:Nat)):=by rw [HW];simp [go_sem]
 have e0:=hd2.c0
 have e1:=hd2.c1
 obtain⟨f0,f1⟩:=hd2.C.cell hyl
 obtain⟨f2,f3⟩:=hd2.R.cell hxl
 clear HW hkw h2
 have x1:(x:Int)<r.length:=by omega
 have x2:(0:Int)≤x:=by omega
 have y1:(y:Int)<c.length:=by omega
 have y2:(0:Int)≤y:=by omega
 have HRL:=Lib.hid hrl;have HCL:=Lib.hid hcl
 clear hrl hcl
 go_still_tail 15,(by kernel_rfl)
 go_wp2
 go_ret
 refine⟨(hk2.drewN 1).setCell (fun _=>.inr rfl) _,rfl,?_⟩
 exact(hd2.keep (T:=fun _=>False) ((Keep.refl _ _).drewN 1) (fun h=>h) (fun _ _ h=>h) (fun _ _ h=>h)).setR hxl _ hcI
theorem does3 (h:DeskAt w base g vc vr c r)(hd:Desk n (c,r))(a b:Int)(ha:0≤a∧a≤(n:Int)-1)(hb:0≤b∧b≤2)(hn:n≤3) :
  Calls Tryz.prog 132 #[.pointer (some ⟨g,0,none⟩),.agg #[.int .i64 2,.int .i64 a,.int .i64 b]] w (Did (doDeed (c,r) ⟨2,a,b⟩) w base g vc vr c r):=by
 have hcl:c.length=n:=hd.cl
 have hrl:r.length=3:=hd.rl
 obtain⟨x,rfl⟩:=Int.eq_ofNat_of_zero_le ha.1
 obtain⟨y,rfl⟩:=Int.eq_ofNat_of_zero_le hb.1
 have hxl:x<c.length:=by omega
 have hyl:y<r.length:=by omega
 obtain⟨gr,cr,hvr,hgr1,hgr2⟩:=h.R.place (by omega)
 obtain⟨gc,cc,hvc,hgc1,hgc2⟩:=h.C.place (by omega)
 subst hvr;subst hvc
 have hdd:doDeed (c,r) ⟨2,(x:Int),(y:Int)⟩=some (c.set x r[y],r):=by simp [doDeed,rdI,hyl]
 rw [hdd]
 have hcI:=h.R.all y hyl
 have hkw:∀ o,Keep (fun k=>some gc=some k∨some gr=some k) w (w.alloc o):=fun o=>(Keep.refl _ _).alloc o
 have h2:∀ o,DeskAt (w.alloc o) base g _ _ c r:=fun o=>h.keep (T:=fun _=>False) ((Keep.refl _ _).alloc o) (fun h=>h) (fun _ _ h=>h) (fun _ _ h=>h)
 clear hdd hd
 go_enter Tryz.func132,Tryz.ntmps132
 go_wp2
 obtain⟨W2,HW⟩:∃ W2,W2=w.alloc (Obj.cells #[.int .i64 2,.int .i64 (x:Nat),.int .i64 (y:Nat)] 124):=⟨_,rfl⟩
 have hk2:=hkw (Obj.cells #[.int .i64 2,.int .i64 (x:Nat),.int .i64 (y:Nat)] 124)
 have hd2:=h2 (Obj.cells #[.int .i64 2,.int .i64 (x:Nat),.int .i64 (y:Nat)] 124)
 rw [← HW] at hk2 hd2 ⊢
 have d0:W2.cell? ⟨w.heap.size,0,none⟩=some (.int .i64 2):=by rw [HW];simp [go_sem]
 have d1:W2.cell? ⟨w.heap.size,1,none⟩=some (.int .i64 (x:Nat)):=by rw [HW];simp [go_sem]
 have d2:W2.cell? ⟨w.heap.size,2,none⟩=some (.int .i64 (y:Nat)):=by rw [HW];simp [go_sem]
 have e0:=hd2.c0
 have e1:=hd2.c1
 obtain⟨f0,f1⟩:=hd2.C.cell hxl
 obtain⟨f2,f3⟩:=hd2.R.cell hyl
 clear HW hkw h2
 have x1:(x:Int)<c.length:=by omega
 have x2:(0:Int)≤x:=by omega
 have y1:(y:Int)<r.length:=by omega
 have y2:(0:Int)≤y:=by omega
 have HRL:=Lib.hid hrl;have HCL:=Lib.hid hcl
 clear hrl hcl
 go_still_tail 15,(by kernel_rfl)
 go_wp2
 go_ret
 refine⟨(hk2.drewN 1).setCell (fun _=>.inl rfl) _,rfl,?_⟩
 exact(hd2.keep (T:=fun _=>False) ((Keep.refl _ _).drewN 1) (fun h=>h) (fun _ _ h=>h) (fun _ _ h=>h)).setC hxl _ hcI
theorem does4 (h:DeskAt w base g vc vr c r)(hd:Desk n (c,r))(a b:Int)(ha:0≤a∧a≤2)(hb:0≤b∧b≤99)(hn:n≤3) :
  Calls Tryz.prog 133 #[.pointer (some ⟨g,0,none⟩),.agg #[.int .i64 3,.int .i64 a,.int .i64 b]] w (Did (doDeed (c,r) ⟨3,a,b⟩) w base g vc vr c r):=by
 have hcl:c.length=n:=hd.cl
 have hrl:r.length=3:=hd.rl
 obtain⟨x,rfl⟩:=Int.eq_ofNat_of_zero_le ha.1
 obtain⟨y,rfl⟩:=Int.eq_ofNat_of_zero_le hb.1
 have hxl:x<r.length:=by omega
 obtain⟨gr,cr,hvr,hgr1,hgr2⟩:=h.R.place (by omega)
 subst hvr
 have hdd:doDeed (c,r) ⟨3,(x:Int),(y:Int)⟩=some (c,r.set x (y:Int)):=by simp [doDeed]
 rw [hdd]
 have hcI:isI (y:Int):=by unfold isI;omega
 have hkw:∀ o,Keep (fun k=>vc.ownBlock=some k∨some gr=some k) w (w.alloc o):=fun o=>(Keep.refl _ _).alloc o
 have h2:∀ o,DeskAt (w.alloc o) base g _ _ c r:=fun o=>h.keep (T:=fun _=>False) ((Keep.refl _ _).alloc o) (fun h=>h) (fun _ _ h=>h) (fun _ _ h=>h)
 clear hdd hd
 go_enter Tryz.func133,Tryz.ntmps133
 go_wp2
 obtain⟨W2,HW⟩:∃ W2,W2=w.alloc (Obj.cells #[.int .i64 3,.int .i64 (x:Nat),.int .i64 (y:Nat)] 124):=⟨_,rfl⟩
 have hk2:=hkw (Obj.cells #[.int .i64 3,.int .i64 (x:Nat),.int .i64 (y:Nat)] 124)
 have hd2:=h2 (Obj.cells #[.int .i64 3,.int .i64 (x:Nat),.int .i64 (y:Nat)] 124)
 rw [← HW] at hk2 hd2 ⊢
 have d0:W2.cell? ⟨w.heap.size,0,none⟩=some (.int .i64 3):=by rw [HW];simp [go_sem]
 have d1:W2.cell? ⟨w.heap.size,1,none⟩=some (.int .i64 (x:Nat)):=by rw [HW];simp [go_sem]
 have d2:W2.cell? ⟨w.heap.size,2,none⟩=some (.int .i64 (y:Nat)):=by rw [HW];simp [go_sem]
 have e0:=hd2.c0
 have e1:=hd2.c1
 obtain⟨f2,f3⟩:=hd2.R.cell hxl
 clear HW hkw h2
 have x1:(x:Int)<r.length:=by omega
 have x2:(0:Int)≤x:=by omega
 have y2:(0:Int)≤y:=by omega
 have HRL:=Lib.hid hrl;have HCL:=Lib.hid hcl
 clear hrl hcl
 go_still_tail 8,(by kernel_rfl)
 go_wp2
 go_ret
 refine⟨(hk2.drewN 1).setCell (fun _=>.inr rfl) _,rfl,?_⟩
 exact(hd2.keep (T:=fun _=>False) ((Keep.refl _ _).drewN 1) (fun h=>h) (fun _ _ h=>h) (fun _ _ h=>h)).setR hxl _ hcI
theorem does5 (h:DeskAt w base g vc vr c r)(hd:Desk n (c,r))(a b:Int)(ha:0≤a∧a≤2)(hb:0≤b∧b≤2)(hn:n≤3) :
  Calls Tryz.prog 134 #[.pointer (some ⟨g,0,none⟩),.agg #[.int .i64 4,.int .i64 a,.int .i64 b]] w (Did (doDeed (c,r) ⟨4,a,b⟩) w base g vc vr c r):=by
 have hcl:c.length=n:=hd.cl
 have hrl:r.length=3:=hd.rl
 obtain⟨x,rfl⟩:=Int.eq_ofNat_of_zero_le ha.1
 obtain⟨y,rfl⟩:=Int.eq_ofNat_of_zero_le hb.1
 have hxl:x<r.length:=by omega
 have hyl:y<r.length:=by omega
 obtain⟨gr,cr,hvr,hgr1,hgr2⟩:=h.R.place (by omega)
 subst hvr
 have hdd:doDeed (c,r) ⟨4,(x:Int),(y:Int)⟩=some (c,r.set x ((r[x]+r[y]) % 100)):=by simp [doDeed,rdI,hyl,hxl]
 rw [hdd]
 have hr1:0≤r[x]∧r[x]≤99:=numsOk_get hd.r x hxl
 have hr2:0≤r[y]∧r[y]≤99:=numsOk_get hd.r y hyl
 have hcI:isI ((r[x]+r[y]) % 100):=by unfold isI;omega
 have e4:IntKind.i64.wrap (r[x]+r[y])=r[x]+r[y]:=IntWalk.i64_in _ (by omega)
 have e5:0≤r[x]+r[y]:=by omega
 have hkw:∀ o,Keep (fun k=>vc.ownBlock=some k∨some gr=some k) w (w.alloc o):=fun o=>(Keep.refl _ _).alloc o
 have h2:∀ o,DeskAt (w.alloc o) base g _ _ c r:=fun o=>h.keep (T:=fun _=>False) ((Keep.refl _ _).alloc o) (fun h=>h) (fun _ _ h=>h) (fun _ _ h=>h)
 clear hdd hd
 go_enter Tryz.func134,Tryz.ntmps134
 go_wp2
 obtain⟨W2,HW⟩:∃ W2,W2=w.alloc (Obj.cells #[.int .i64 4,.int .i64 (x:Nat),.int .i64 (y:Nat)] 124):=⟨_,rfl⟩
 have hk2:=hkw (Obj.cells #[.int .i64 4,.int .i64 (x:Nat),.int .i64 (y:Nat)] 124)
 have hd2:=h2 (Obj.cells #[.int .i64 4,.int .i64 (x:Nat),.int .i64 (y:Nat)] 124)
 rw [← HW] at hk2 hd2 ⊢
 have d0:W2.cell? ⟨w.heap.size,0,none⟩=some (.int .i64 4):=by rw [HW];simp [go_sem]
 have d1:W2.cell? ⟨w.heap.size,1,none⟩=some (.int .i64 (x:Nat)):=by rw [HW];simp [go_sem]
 have d2:W2.cell? ⟨w.heap.size,2,none⟩=some (.int .i64 (y:Nat)):=by rw [HW];simp [go_sem]
 have e0:=hd2.c0
 have e1:=hd2.c1
 obtain⟨f0,f1⟩:=hd2.R.cell hyl
 obtain⟨f2,f3⟩:=hd2.R.cell hxl
 clear HW hkw h2
 have x1:(x:Int)<r.length:=by omega
 have x2:(0:Int)≤x:=by omega
 have y1:(y:Int)<r.length:=by omega
 have y2:(0:Int)≤y:=by omega
 have HRL:=Lib.hid hrl;have HCL:=Lib.hid hcl
 clear hrl hcl
 go_still_tail 25,(by kernel_rfl)
 go_wp2
 go_ret
 refine⟨(hk2.drewN 1).setCell (fun _=>.inr rfl) _,rfl,?_⟩
 exact(hd2.keep (T:=fun _=>False) ((Keep.refl _ _).drewN 1) (fun h=>h) (fun _ _ h=>h) (fun _ _ h=>h)).setR hxl _ hcI
theorem does6 (h:DeskAt w base g vc vr c r)(hd:Desk n (c,r))(a:Int)(ha:0≤a∧a≤2)(hn:n≤3) :
  Calls Tryz.prog 135 #[.pointer (some ⟨g,0,none⟩),.agg #[.int .i64 5,.int .i64 a,.int .i64 0]] w (Did (doDeed (c,r) ⟨5,a,0⟩) w base g vc vr c r):=by
 have hrl:r.length=3:=hd.rl
 obtain⟨x,rfl⟩:=Int.eq_ofNat_of_zero_le ha.1
 have hxl:x<r.length:=by omega
 obtain⟨gr,cr,hvr,hgr1,hgr2⟩:=h.R.place (by omega)
 subst hvr
 have hkw:∀ o,Keep (fun k=>vc.ownBlock=some k∨some gr=some k) w (w.alloc o):=fun o=>(Keep.refl _ _).alloc o
 have h2:∀ o,DeskAt (w.alloc o) base g _ _ c r:=fun o=>h.keep (T:=fun _=>False) ((Keep.refl _ _).alloc o) (fun h=>h) (fun _ _ h=>h) (fun _ _ h=>h)
 by_cases h0:r[x]=0
 ·have hdd:doDeed (c,r) ⟨5,(x:Int),0⟩=none:=by simp [doDeed,rdI,hxl,h0]
  rw [hdd]
  have hbn:(r[x] != 0)=false:=by simp [h0]
  clear hdd hd h0
  go_enter Tryz.func135,Tryz.ntmps135
  go_wp2
  obtain⟨W2,HW⟩:∃ W2,W2=w.alloc (Obj.cells #[.int .i64 5,.int .i64 (x:Nat),.int .i64 0] 124):=⟨_,rfl⟩
  have hk2:=hkw (Obj.cells #[.int .i64 5,.int .i64 (x:Nat),.int .i64 0] 124)
  have hd2:=h2 (Obj.cells #[.int .i64 5,.int .i64 (x:Nat),.int .i64 0] 124)
  rw [← HW] at hk2 hd2 ⊢
  have d1:W2.cell? ⟨w.heap.size,1,none⟩=some (.int .i64 (x:Nat)):=by rw [HW];simp [go_sem]
  have e0:=hd2.c0
  have e1:=hd2.c1
  obtain⟨f2,f3⟩:=hd2.R.cell hxl
  clear HW hkw h2
  have x1:(x:Int)<r.length:=by omega
  have x2:(0:Int)≤x:=by omega
  have HRL:=Lib.hid hrl
  clear hrl
  go_quiet (fail)
  go_wp2
  go_ret
  exact⟨hk2.drewN _,rfl,hd2.keep (T:=fun _=>False) ((Keep.refl _ _).drewN _) (fun h=>h) (fun _ _ h=>h) (fun _ _ h=>h)⟩
 ·have hdd:doDeed (c,r) ⟨5,(x:Int),0⟩=some (c,r):=by simp [doDeed,rdI,hxl,h0]
  rw [hdd]
  have hbn:(r[x] != 0)=true:=by simp [h0]
  clear hdd hd h0
  go_enter Tryz.func135,Tryz.ntmps135
  go_wp2
  obtain⟨W2,HW⟩:∃ W2,W2=w.alloc (Obj.cells #[.int .i64 5,.int .i64 (x:Nat),.int .i64 0] 124):=⟨_,rfl⟩
  have hk2:=hkw (Obj.cells #[.int .i64 5,.int .i64 (x:Nat),.int .i64 0] 124)
  have hd2:=h2 (Obj.cells #[.int .i64 5,.int .i64 (x:Nat),.int .i64 0] 124)
  rw [← HW] at hk2 hd2 ⊢
  have d1:W2.cell? ⟨w.heap.size,1,none⟩=some (.int .i64 (x:Nat)):=by rw [HW];simp [go_sem]
  have e0:=hd2.c0
  have e1:=hd2.c1
  obtain⟨f2,f3⟩:=hd2.R.cell hxl
  clear HW hkw h2
  have x1:(x:Int)<r.length:=by omega
  have x2:(0:Int)≤x:=by omega
  have HRL:=Lib.hid hrl
  clear hrl
  go_quiet (fail)
  go_wp2
  go_ret
  exact⟨hk2.drewN _,rfl,hd2.keep (T:=fun _=>False) ((Keep.refl _ _).drewN _) (fun h=>h) (fun _ _ h=>h) (fun _ _ h=>h)⟩
end
end Go.Proofs.YtjacjafmimgfcaaGreat
namespace Go.Proofs.YtjacjafmimgfcaaGreat
open Go.RowKit
def fnV (f:Nat):Value:=.func (.func f) #[] #[]
def doesV:Value:=.agg #[fnV 130,fnV 131,fnV 132,fnV 133,fnV 134,fnV 135]
theorem does_calls (w:World):Calls Tryz.prog 92 #[] w fun e w'=>e=.returned doesV∧Below w.heap.size w w':=by
 go_enter Tryz.func92,Tryz.ntmps92
 go_wp2
 exact bodyPost_ret (v:=doesV) (by simp [results,Tryz.results92,go_sem,doesV,fnV]) rfl ⟨rfl,(by repeat (first | exact Below.refl _ _ | (refine Below.alloc ?_ (by simp) _) | (refine Below.setCell ?_ (by simp) _) | (refine below_drewN' ?_ _) | (refine Below.drew ?_)))⟩
theorem cloneInt_calls (xs:List Int)(A:Option Addr)(c:Nat)(w:World)(S:Nat→Prop)(hr:Row Kd.int w S A xs)(hl:xs.length≤1000000) :
  Calls Tryz.prog 47 #[.slice A xs.length c] w fun e w'=>∃ v,e=.returned v∧OwnI 3 w' w.heap.size v xs∧Below w.heap.size w w':=by
 cases A with
 | none =>
  have hx:xs=[]:=by
   rcases Classical.em (xs=[]) with h | h
   ·exact h
   ·obtain⟨ad,e,_⟩:=hr.2 h;cases e
  subst hx
  have hn:=Lib.run_eql_slice_nil (P:=Tryz.prog) w 22 3 none 0 c 0 0 Tryz.underlying22
  go_enter Tryz.func47,Tryz.ntmps47
  go_wp2
  go_ret
  exact⟨_,rfl,OwnI.nil _ _ _,Below.refl _ _⟩
 | some ad =>
  have hn:=Lib.run_eql_slice_nil (P:=Tryz.prog) w 22 3 (some ad) xs.length c 0 0 Tryz.underlying22
  go_enter Tryz.func47,Tryz.ntmps47
  go_wp2_with (at_builtin;refine wpList_clone_kd (d:=Kd.int) rfl (.tmp 5) (.tmp 6) _ rfl Tryz.underlying22 _ 8 infoInt rfl (by decide) (by decide) rfl (some ad) c rfl hr (by omega) ?_;intro v w1 ho hb)
  go_ret
  exact⟨v,rfl,OwnI.of ho,hb⟩
def ResCDi (r:Option (List Int × List Int)) (B:Nat) (e:Ending) (w':World):Prop :=
 match r with
 | none=>e=.returned (.tuple #[.slice none 0 0,.slice none 0 0,.bool false])
 | some (c,r)=>∃ vc vr,e=.returned (.tuple #[vc,vr,.bool true])∧OwnI 3 w' B vc c∧OwnI 3 w' B vr r∧∀ k,vc.ownBlock=some k→vr.ownBlock≠some k
theorem implChangeDo_bad (cells regs:List Int)(deeds:List Deed)(A B D:Option Addr)(ca cb cd:Nat)(w:World)(S:Nat→Prop)(hA:Row Kd.int w S A cells)(hB:Row Kd.int w S B regs)(hD:Row kDeed w S D deeds)(hbad:deskOk cells regs deeds=false) :
  Calls Tryz.prog 50 #[.slice A cells.length ca,.slice B regs.length cb,.slice D deeds.length cd] w fun e w'=>ResCDi none w.heap.size e w'∧Below w.heap.size w w':=by
 have hm:=hA.1
 have hm2:=hB.1
 cases h1:changeOk deeds cells.length
 ·have H1:=Lib.hid h1
  clear h1 hbad
  go_enter Tryz.func50,Tryz.ntmps50
  go_wp2_with (go_at_call 90;refine(changeOk_calls deeds _ _ _ _ S hD (by omega)).mono ?_;rintro e w1 ⟨rfl,hb1⟩;rw [H1.out])
  go_ret3
  exact⟨rfl,hb1⟩
 ·cases h2:numsOk cells
  ·have H1:=Lib.hid h1
   have H2:=Lib.hid h2
   clear h1 h2 hbad
   go_enter Tryz.func50,Tryz.ntmps50
   go_wp2_with (first | (go_at_call 90;refine(changeOk_calls deeds _ _ _ _ S hD (by omega)).mono ?_;rintro e w1 ⟨rfl,hb1⟩;rw [H1.out]) | (go_at_call 91;refine(allNums_calls cells _ _ _ S (hA.belowAll hb1)).mono ?_;rintro e w' ⟨rfl,rfl⟩;rw [H2.out]))
   go_ret3
   exact⟨rfl,hb1⟩
  ·by_cases h4:regs.length=3
   ·have h3:numsOk regs=false:=by simpa [deskOk,h1,h2,h4] using hbad
    have H1:=Lib.hid h1
    have H2:=Lib.hid h2
    have H3:=Lib.hid h3
    have h5:((regs.length:Int) != 3)=false:=by simp [h4]
    clear h1 h2 h3 h4 hbad
    go_enter Tryz.func50,Tryz.ntmps50
    go_wp2_with (first | (go_at_call 90;refine(changeOk_calls deeds _ _ _ _ S hD (by omega)).mono ?_;rintro e w1 ⟨rfl,hb1⟩;rw [H1.out]) | (go_at_call 91;with_reducible refine(allNums_calls cells _ _ _ S (hA.belowAll hb1)).mono ?_;rintro e w' ⟨rfl,rfl⟩;rw [H2.out]) | (go_at_call 91;refine(allNums_calls regs _ _ _ S (hB.belowAll hb1)).mono ?_;rintro e w' ⟨rfl,rfl⟩;rw [H3.out]))
    go_ret3
    exact⟨rfl,hb1⟩
   ·have H1:=Lib.hid h1
    have H2:=Lib.hid h2
    have h5:((regs.length:Int) != 3)=true:=by simp;omega
    clear h1 h2 h4 hbad
    go_enter Tryz.func50,Tryz.ntmps50
    go_wp2_with (first | (go_at_call 90;refine(changeOk_calls deeds _ _ _ _ S hD (by omega)).mono ?_;rintro e w1 ⟨rfl,hb1⟩;rw [H1.out]) | (go_at_call 91;refine(allNums_calls cells _ _ _ S (hA.belowAll hb1)).mono ?_;rintro e w' ⟨rfl,rfl⟩;rw [H2.out]))
    go_ret3
    exact⟨rfl,hb1⟩
end Go.Proofs.YtjacjafmimgfcaaGreat
namespace Go.Proofs.YtjacjafmimgfcaaGreat
open Go.RowKit
theorem sliceSame_calls (a b:List Int)(A B:Option Addr)(ca cb:Nat)(w:World)(S T:Nat→Prop)(ha:Row Kd.int w T A a)(hb:Row Kd.int w S B b) :
  Calls Tryz.prog 93 #[.slice A a.length ca,.slice B b.length cb] w fun e w'=>e=.returned (.bool (decide (a=b)))∧Below w.heap.size w w':=by
 have hma:=ha.1
 have hmb:=hb.1
 by_cases hn:a.length=b.length
 rotate_left
 ·have b1:((a.length:Int) != b.length)=true:=bne_iff_ne.2 (by omega)
  have HB:=Lib.hid (show decide (a=b)=false from decide_eq_false (fun h=>hn (by rw [h])))
  clear hn
  go_enter Tryz.func93,Tryz.ntmps93
  go_wp2
  go_ret
  exact⟨ret_bool HB.out.symm,Below.refl _ _⟩
 have b1:((a.length:Int) != b.length)=false:=by simp [hn]
 have HN:=Lib.hid hn
 clear hn
 go_enter Tryz.func93,Tryz.ntmps93
 go_wp2
 go_loopw [5,13] (fun _ i wr=>∃ k:Nat,k≤a.length∧i=.int .i64 k∧Hid (a.take k=b.take k)∧Below w.heap.size w wr) (fun _ i _=>a.length-(intOf i).toNat)
 case atStart=>exact⟨0,Nat.zero_le _,rfl,by simp [Hid],Below.refl _ _⟩
 case round =>
  obtain⟨k,hk,rfl,HA,hbr⟩:=hrel
  by_cases hlt:k<a.length
  ·have hlt2:k<b.length:=by have:=HN.out;omega
   obtain⟨ad,rfl,hl,c0,_⟩:=at_int (ha.belowAll hbr) hlt
   obtain⟨bd,rfl,hl2,c1,_⟩:=at_int (hb.belowAll hbr) hlt2
   have x1:(k:Int)<a.length:=by omega
   have x2:(k:Int)<b.length:=by omega
   have x3:(0:Int)≤k:=by omega
   by_cases e3:a[k]=b[k]
   ·have b4:(a[k] != b[k])=false:=by simp [e3]
    have HE:=Lib.hid e3
    clear e3
    go_wp2
    go_quiet (fail)
    go_wp2
    go_roundw
    case rel=>exact⟨k+1,by omega,by go_num,same_step a b k hlt hlt2 HA.out HE.out,by repeat' (first | exact hbr | apply below_drewN1)⟩
    case measure=>simp [intOf];omega
   ·have b4:(a[k] != b[k])=true:=bne_iff_ne.2 e3
    have HE:=Lib.hid e3
    clear e3
    go_wp2
    go_quiet (fail)
    go_wp2
    go_ret
    exact⟨ret_bool (decide_eq_false (fun h=>HE.out (by subst h;rfl))).symm,by repeat' (first | exact hbr | apply below_drewN1)⟩
  ·have HB:Hid (a=b):=Lib.hid (by have:=HA.out;have h1:=HN.out;rwa [show k=a.length by omega,List.take_length,h1,List.take_length] at this)
   go_wp2
   go_ret
   exact⟨ret_bool (decide_eq_true HB.out).symm,hbr⟩
theorem sameAt (a b:List Int)(A B:Option Addr)(ca cb:Nat)(w:World)(S T:Nat→Prop)(n:Nat)(hn:a.length=n)(ha:Row Kd.int w T A a)(hb:Row Kd.int w S B b) :
  Calls Tryz.prog 93 #[.slice A n ca,.slice B b.length cb] w fun e w'=>e=.returned (.bool (decide (a=b)))∧Below w.heap.size w w':=by
 subst hn;exact sliceSame_calls a b A B ca cb w S T ha hb
theorem doesPut_calls (cells left:List Int)(l:List Put)(A L B:Option Addr)(ca cl cb:Nat)(w:World)(S T U:Nat→Prop)(hc:Row Kd.int w T A cells)(hL:Row Kd.int w U L left)(hr:Row kPut w S B l)(hi:∀ x ∈ l,isI x.num)(hcl:cells.length≤1000) :
  Calls Tryz.prog 51 #[.slice A cells.length ca,.slice L left.length cl,.slice B l.length cb] w fun e w'=>e=.returned (.bool (decide (putAll cells l=left)))∧Below w.heap.size w w':=by
 obtain⟨X,HX⟩:∃ X,X=putAll cells l:=⟨_,rfl⟩
 have HPL:=Lib.hid (show X.length=cells.length by rw [HX];exact putAll_len _ _)
 have HXX:=Lib.hid HX
 rw [← HX]
 clear HX
 obtain⟨d,hd⟩:∃ d,decide (X=left)=d:=⟨_,rfl⟩
 have HD:=Lib.hid hd
 rw [hd]
 clear hd
 go_enter Tryz.func51,Tryz.ntmps51
 go_wp2_with (first
  | (go_at_call 47;refine(cloneInt_calls cells A ca _ T hc (by omega)).mono ?_;rintro e w1 ⟨vc,rfl,ho,hb1⟩;obtain⟨Ac,cc,rfl,hcc,hrc⟩:=OwnI.row ho;clear hrc) | (go_at_call 65;refine(putAllI_calls cells l Ac B cc cb w.heap.size _ (fun k=>S k∧k<w.heap.size) ho ((Row.bound hr).belowAll hb1) (fun k h1 _ h2=>by have:=(OwnI.blk ho k h2).1;omega) hi hcl).mono ?_;rintro e w2 ⟨rfl,ho2,hk2⟩;rw [← HXX.out] at ho2;have hbelow:Below w.heap.size w w2:=hb1.trans (hk2.below (B:=w.heap.size) (fun k h1 h2=>by have:=(OwnI.blk ho k h2).1;omega) hb1.size);obtain⟨A2,c2,e2,_,hr2⟩:=OwnI.row ho2;injection e2 with e2 e3 e4;subst e2;subst e4;clear e3) | (go_at_call 93;refine(sameAt X left Ac L cc cl w2 U _ cells.length HPL.out hr2 (hL.belowAll hbelow)).mono ?_;rintro e w3 ⟨rfl,hb3⟩;rw [HD.out]))
 go_ret
 exact⟨rfl,below_then hbelow hbelow.size hb3⟩
end Go.Proofs.YtjacjafmimgfcaaGreat
namespace Go.Proofs.YtjacjafmimgfcaaGreat
open Go.RowKit
theorem implLogDo_bad (p:Prog)(s:Sys)(l:List Entry)(P Q A B C L:Option Addr)(cp cq ca cb cc cl:Nat)(w:World)(S:Nat→Prop)(hP:Row Kd.int w S P p.cells)(hQ:Row (Kd.slice kAct) w S Q p.bodies)(hS:SysR w S s A B C)(hbad:sysOk p s=false) :
  Calls Tryz.prog 14 #[.agg #[.slice P p.cells.length cp,.slice Q p.bodies.length cq],.agg #[.slice A s.cells.length ca,.slice B s.tasks.length cb,.int .i64 s.clock,.slice C s.log.length cc],.slice L l.length cl] w fun e w'=>ResLogDo (logDo p s l) w.heap.size e w'∧Below w.heap.size w w':=by
 have HR:Hid (logDo p s l=none):=Lib.hid (by unfold logDo;rw [if_neg (by rw [hbad];simp)])
 have HB:=Lib.hid hbad
 clear hbad
 have hS2:∀ o1 o2,SysR ((w.alloc o1).alloc o2) S s A B C:=fun o1 o2=>by obtain⟨h1,h2,h3⟩:=hS;exact⟨h1.belowAll (alB2 w o1 o2),h2.belowAll (alB2 w o1 o2),h3.belowAll (alB2 w o1 o2)⟩
 go_enter Tryz.func14,Tryz.ntmps14
 go_wp2_with (go_at_call 46;refine(implSysOk_calls p s P Q A B C cp cq ca cb cc _ S (hP.belowAll (alB2 w _ _)) (hQ.belowAll (alB2 w _ _)) (hS2 _ _)).mono ?_;rintro e w1 ⟨rfl,hb1⟩;rw [HB.out];have hbw1:Below w.heap.size w w1:=below_then (alB2 w _ _) (by simp;omega) hb1)
 go_ret3
 exact⟨by rw [HR.out];exact⟨_,_,rfl⟩,by first | exact hbw1 | exact(hbw1.alloc hbw1.size _).alloc (by have:=hbw1.size;simp;omega) _⟩
end Go.Proofs.YtjacjafmimgfcaaGreat
