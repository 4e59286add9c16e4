/- The program's look at a system: how a task stands. -/
import Derived.Test.YtjacjafmimgfcaaGreatWbl
set_option linter.unusedVariables false
set_option linter.unusedSimpArgs false
namespace Go.Proofs.YtjacjafmimgfcaaGreat
open Go.RowKit
theorem kidsI_lt (s:Sys)(k:Nat):∀ i ∈ kidsI s k,i<s.tasks.length:=fun i hi=>by
 unfold kidsI at hi
 exact List.mem_range.1 (List.mem_filter.1 hi).1
set_option maxHeartbeats 4000000 in
set_option maxRecDepth 100000 in
theorem wayOk_calls (p:Prog)(s:Sys)(i:Nat)(P Q A B C:Option Addr)(cp cq ca cb cc:Nat)(w:World)(S:Nat→Prop)(hQ:Row (Kd.slice kAct) w S Q p.bodies)(hT:Row kTask w S B s.tasks)(hi:i<s.tasks.length)(hn:s.tasks.length≤1000)
  (hbody:0≤(s.t i).body∧(s.t i).body<p.bodies.length) (hpc:0≤(s.t i).pc∧(s.t i).pc≤(p.acts (s.t i).body).length) :
  Calls Tryz.prog 86 #[.agg #[.slice P p.cells.length cp,.slice Q p.bodies.length cq],.agg #[.slice A s.cells.length ca,.slice B s.tasks.length cb,.int .i64 s.clock,.slice C s.log.length cc],.int .i64 (i:Nat)] w fun e w'=>e=.returned (.bool (wayOkI p s i))∧Below w.heap.size w w':=by
 have hm:=hT.1
 obtain⟨t,ht⟩:∃ t,t=s.t i:=⟨_,rfl⟩
 rw [← ht] at hbody hpc
 have HS:Hid (wayOkI p s i=if t.way=1 then p.there t && decide ((p.act t).kind=2) && decide ((p.act t).kids.length≤(stand s (kidsI s i)).length) else if t.way=2 then !p.there t else true):=Lib.hid (by rw [ht];rfl)
 obtain⟨ad,R,O,D,U,cr,co,cd,cu,rfl,hl,hrows,hat⟩:=at_task hT hi
 rw [← sys_t hi,← ht] at hat
 have hl2:(ad.add (i*13)).block<w.heap.size:=by rw [block_add];exact hl
 have q:=fun o o'=>hat.below (alB2 w o o') hl2
 have k0:=fun o o'=>(q o o').c0
 have k1:=fun o o'=>(q o o').c1
 have k2:=fun o o'=>(q o o').c2
 have k3:=fun o o'=>(q o o').c3
 have k4:=fun o o'=>(q o o').c4
 have k5:=fun o o'=>(q o o').c5
 have k6:=fun o o'=>(q o o').c6
 have k7:=fun o o'=>(q o o').c7
 have k8:=fun o o'=>(q o o').c8
 have k9:=fun o o'=>(q o o').c9
 have k10:=fun o o'=>(q o o').c10
 have k11:=fun o o'=>(q o o').c11
 have k12:=fun o o'=>(q o o').c12
 have x1:(i:Int)<s.tasks.length:=by omega
 have x3:(0:Int)≤i:=by omega
 obtain⟨W,HW⟩:∃ W,W=((w.alloc (Obj.cells #[.slice P p.cells.length cp,.slice Q p.bodies.length cq] 39)).alloc (Obj.cells #[.slice A s.cells.length ca,.slice (some ad) s.tasks.length cb,.int .i64 s.clock,.slice C s.log.length cc] 45)).alloc (Obj.cells #[.int .i64 t.body,.int .i64 t.pc,.int .i64 t.up,.slice R t.regs.length cr,.int .i64 t.way,.int .i64 t.stage,.int .i64 t.pos,.int .i64 t.since,.slice O t.old.length co,.slice D t.reads.length cd,.slice U t.puts.length cu,.int .i64 t.whn,.int .i64 t.frm] 118):=⟨_,rfl⟩
 have hbW:Below w.heap.size w W:=by rw [HW];exact alB3 w _ _ _
 have hzW:W.heap.size=w.heap.size+3:=by rw [HW];simp
 have bt:W.cell? ⟨w.heap.size+1+1,4,none⟩=some (.int .i64 t.way):=by rw [HW];simp [go_sem]
 have bs0:W.cell? ⟨w.heap.size+1,0,none⟩=some (.slice A s.cells.length ca):=by rw [HW];simp [go_sem]
 have bs1:W.cell? ⟨w.heap.size+1,1,none⟩=some (.slice (some ad) s.tasks.length cb):=by rw [HW];simp [go_sem]
 have bs2:W.cell? ⟨w.heap.size+1,2,none⟩=some (.int .i64 s.clock):=by rw [HW];simp [go_sem]
 have bs3:W.cell? ⟨w.heap.size+1,3,none⟩=some (.slice C s.log.length cc):=by rw [HW];simp [go_sem]
 have hs:w.heap.size+1<W.heap.size:=by omega
 have htb:w.heap.size+1+1<W.heap.size:=by omega
 have HWW:=Lib.hid HW
 have HZ:=Lib.hid hzW
 have HT:=Lib.hid ht
 clear HW hzW ht hat q hrows
 by_cases h1:t.way=1
 ·have b1:(t.way == 1)=true:=by simp [h1]
  have H1:=Lib.hid h1
  clear h1
  cases et:p.there t with
  | false =>
   have ET:=Lib.hid et
   clear et
   go_enter Tryz.func86,Tryz.ntmps86
   go_wp2_with (first | (go_at_call 124;refine(actAt_calls p t P Q R O D U cp cq cr co cd cu _ S (hQ.belowAll (alB3 w _ _ _)) hbody hpc).mono ?_;rintro e w1 ⟨⟨G,K,cg,ck,rfl,hG,hK⟩,hb1⟩;rw [← HWW.out] at hb1;rw [ET.out];have ht1:w.heap.size+1+1<w1.heap.size:=Nat.lt_of_lt_of_le htb hb1.size;have hs1:w.heap.size+1<w1.heap.size:=Nat.lt_of_lt_of_le hs hb1.size;have hw1:Below w.heap.size w w1:=below_then hbW hbW.size hb1;have hbw1:=fun o=>below_then hw1 hw1.size (alB w1 o);have zt:=fun o=>((alB w1 o).cell (p:=⟨w.heap.size+1+1,4,none⟩) ht1).trans ((hb1.cell (p:=⟨w.heap.size+1+1,4,none⟩) htb).trans bt);have zs0:=fun o=>((alB w1 o).cell (p:=⟨w.heap.size+1,0,none⟩) hs1).trans ((hb1.cell (p:=⟨w.heap.size+1,0,none⟩) hs).trans bs0);have zs1:=fun o=>((alB w1 o).cell (p:=⟨w.heap.size+1,1,none⟩) hs1).trans ((hb1.cell (p:=⟨w.heap.size+1,1,none⟩) hs).trans bs1);have zs2:=fun o=>((alB w1 o).cell (p:=⟨w.heap.size+1,2,none⟩) hs1).trans ((hb1.cell (p:=⟨w.heap.size+1,2,none⟩) hs).trans bs2);have zs3:=fun o=>((alB w1 o).cell (p:=⟨w.heap.size+1,3,none⟩) hs1).trans ((hb1.cell (p:=⟨w.heap.size+1,3,none⟩) hs).trans bs3)) | (go_at_call 126;refine(treeKids_calls s i A (some ad) C ca cb cc _ S (hT.belowAll (hbw1 _)) hi (by omega)).mono ?_;rintro e w2 ⟨v2,rfl,ho2,hb2⟩;obtain⟨A2,c2,rfl,hc2,hr2⟩:=OwnI.row ho2;rw [show (ints (kidsI s i)).length=(kidsI s i).length by simp [ints]] at *;have hw2:Below w.heap.size w w2:=below_then (hbw1 _) (by have:=hw1.size;simp;omega) hb2;have ys1:=(hb2.cell (p:=⟨w.heap.size+1,1,none⟩) (by simp;omega)).trans (zs1 _);have hs2:w.heap.size+1<w2.heap.size:=Nat.lt_of_lt_of_le (by simp;omega) hb2.size;have ya0:=(hb2.cell (p:=⟨w1.heap.size,0,none⟩) (by simp)).trans (show _=some (.int .i64 (actGot p t).kind) by simp [go_sem]);have ya2:=(hb2.cell (p:=⟨w1.heap.size,2,none⟩) (by simp)).trans (show _=some (.slice K (actGot p t).kids.length ck) by simp [go_sem]);have ha2:w1.heap.size<w2.heap.size:=Nat.lt_of_lt_of_le (by simp) hb2.size))
   obtain⟨kl,hkl⟩:∃ kl,kl=kidsI s i:=⟨_,rfl⟩
   rw [← hkl] at hr2 ⊢
   have hlt:=kidsI_lt s i
   rw [← hkl] at hlt
   have HKL:=Lib.hid hkl
   have hmk:kl.length≤9223372036854775807:=by have:=hr2.1;simpa [ints] using this
   have hkn:kl.length≤s.tasks.length:=by rw [hkl];unfold kidsI;have:=List.length_filter_le (fun j=>decide (i<j) && decide ((s.t j).up=i)) (List.range s.tasks.length);simpa using this
   clear hkl ho2 hc2
   go_loopw [10,12,32] (fun v _ c wr=>∃ j:Nat,j≤kl.length∧c=.int .i64 j∧v=.int .i64 ((stand s (kl.take j)).length:Nat)∧Below w2.heap.size w2 wr) (fun _ _ c _=>kl.length-(intOf c).toNat)
   case atStart=>exact⟨0,Nat.zero_le _,rfl,by simp [stand],Below.refl _ _⟩
   case round =>
    obtain⟨j,hj,rfl,rfl,hbr⟩:=hrel
    have hwr:Below w.heap.size w wr:=below_then hw2 hw2.size hbr
    have zs:=(hbr.cell (p:=⟨w.heap.size+1,1,none⟩) hs2).trans ys1
    have za0:=(hbr.cell (p:=⟨w1.heap.size,0,none⟩) ha2).trans ya0
    have za2:=(hbr.cell (p:=⟨w1.heap.size,2,none⟩) ha2).trans ya2
    by_cases hjl:j<kl.length
    ·obtain⟨ak,rfl,hlk,hck0,_⟩:=at_int (hr2.belowAll hbr) (j:=j) (by simpa [ints] using hjl)
     have hck:wr.cell? (ak.add j)=some (.int .i64 (kl[j]:Nat)):=by simpa [ints] using hck0
     clear hck0
     have hkj:kl[j]<s.tasks.length:=hlt _ (List.getElem_mem hjl)
     obtain⟨ad',R',O',D',U',cr',co',cd',cu',he,hl',hrows',hat'⟩:=at_task (hT.belowAll hwr) hkj
     injection he with he
     subst he
     have m4:=hat'.c4
     have hst:=stand_next s kl j hjl
     rw [sys_t hkj] at hst
     have y1:(j:Int)<kl.length:=by omega
     have y3:(0:Int)≤j:=by omega
     have y4:(kl[j]:Int)<s.tasks.length:=by omega
     have y5:(0:Int)≤(kl[j]:Int):=by omega
     have hsl:(stand s (kl.take j)).length≤j:=by
      have:=List.length_filter_le (fun k=>decide ((s.t k).way≠4)) (kl.take j)
      rw [List.length_take] at this
      unfold stand;omega
     obtain⟨n0,hn0⟩:∃ n0,n0=(stand s (kl.take j)).length:=⟨_,rfl⟩
     rw [← hn0] at hst hsl ⊢
     obtain⟨kj,hkjj⟩:∃ kj,kj=kl[j]:=⟨_,rfl⟩
     by_cases h4:(s.tasks[kl[j]]'hkj).way=4
     ·have b4:((s.tasks[kl[j]]'hkj).way != 4)=false:=by simp [h4]
      rw [if_neg (fun h=>h h4)] at hst
      have HST:=Lib.hid hst
      clear hst h4 hn0 hkjj hat' hrows'
      go_wp2
      go_roundw
      case rel=>exact⟨j+1,by omega,by go_num,by rw [HST.out];rfl,hbr⟩
      case measure=>simp [intOf];omega
     ·have b4:((s.tasks[kl[j]]'hkj).way != 4)=true:=by simp [h4]
      rw [if_pos h4] at hst
      have HST:=Lib.hid hst
      clear hst h4 hn0 hkjj hat' hrows'
      go_wp2
      go_roundw
      case rel=>exact⟨j+1,by omega,by go_num,by rw [HST.out];go_num,hbr⟩
      case measure=>simp [intOf];omega
    ·have hall:kl.take j=kl:=List.take_of_length_le (by omega)
     rw [hall]
     clear hall
     go_wp2
     go_ret
     exact⟨ret_bool (by rw [HS.out,if_pos H1.out,ET.out];rfl),hwr⟩
  | true =>
   have ET:=Lib.hid et
   have hgot:actGot p t=p.act t:=by unfold actGot;rw [if_pos et]
   have HG:=Lib.hid hgot
   by_cases h2:(p.act t).kind=2
   ·have b2:((actGot p t).kind == 2)=true:=by rw [hgot];simp [h2]
    have H2:=Lib.hid h2
    clear et hgot h2
    go_enter Tryz.func86,Tryz.ntmps86
    go_wp2_with (first | (go_at_call 124;refine(actAt_calls p t P Q R O D U cp cq cr co cd cu _ S (hQ.belowAll (alB3 w _ _ _)) hbody hpc).mono ?_;rintro e w1 ⟨⟨G,K,cg,ck,rfl,hG,hK⟩,hb1⟩;rw [← HWW.out] at hb1;rw [ET.out];have ht1:w.heap.size+1+1<w1.heap.size:=Nat.lt_of_lt_of_le htb hb1.size;have hs1:w.heap.size+1<w1.heap.size:=Nat.lt_of_lt_of_le hs hb1.size;have hw1:Below w.heap.size w w1:=below_then hbW hbW.size hb1;have hbw1:=fun o=>below_then hw1 hw1.size (alB w1 o);have zt:=fun o=>((alB w1 o).cell (p:=⟨w.heap.size+1+1,4,none⟩) ht1).trans ((hb1.cell (p:=⟨w.heap.size+1+1,4,none⟩) htb).trans bt);have zs0:=fun o=>((alB w1 o).cell (p:=⟨w.heap.size+1,0,none⟩) hs1).trans ((hb1.cell (p:=⟨w.heap.size+1,0,none⟩) hs).trans bs0);have zs1:=fun o=>((alB w1 o).cell (p:=⟨w.heap.size+1,1,none⟩) hs1).trans ((hb1.cell (p:=⟨w.heap.size+1,1,none⟩) hs).trans bs1);have zs2:=fun o=>((alB w1 o).cell (p:=⟨w.heap.size+1,2,none⟩) hs1).trans ((hb1.cell (p:=⟨w.heap.size+1,2,none⟩) hs).trans bs2);have zs3:=fun o=>((alB w1 o).cell (p:=⟨w.heap.size+1,3,none⟩) hs1).trans ((hb1.cell (p:=⟨w.heap.size+1,3,none⟩) hs).trans bs3)) | (go_at_call 126;refine(treeKids_calls s i A (some ad) C ca cb cc _ S (hT.belowAll (hbw1 _)) hi (by omega)).mono ?_;rintro e w2 ⟨v2,rfl,ho2,hb2⟩;obtain⟨A2,c2,rfl,hc2,hr2⟩:=OwnI.row ho2;rw [show (ints (kidsI s i)).length=(kidsI s i).length by simp [ints]] at *;have hw2:Below w.heap.size w w2:=below_then (hbw1 _) (by have:=hw1.size;simp;omega) hb2;have ys1:=(hb2.cell (p:=⟨w.heap.size+1,1,none⟩) (by simp;omega)).trans (zs1 _);have hs2:w.heap.size+1<w2.heap.size:=Nat.lt_of_lt_of_le (by simp;omega) hb2.size;have ya0:=(hb2.cell (p:=⟨w1.heap.size,0,none⟩) (by simp)).trans (show _=some (.int .i64 (actGot p t).kind) by simp [go_sem]);have ya2:=(hb2.cell (p:=⟨w1.heap.size,2,none⟩) (by simp)).trans (show _=some (.slice K (actGot p t).kids.length ck) by simp [go_sem]);have ha2:w1.heap.size<w2.heap.size:=Nat.lt_of_lt_of_le (by simp) hb2.size))
    obtain⟨kl,hkl⟩:∃ kl,kl=kidsI s i:=⟨_,rfl⟩
    rw [← hkl] at hr2 ⊢
    have hlt:=kidsI_lt s i
    rw [← hkl] at hlt
    have HKL:=Lib.hid hkl
    have hmk:kl.length≤9223372036854775807:=by have:=hr2.1;simpa [ints] using this
    have hkn:kl.length≤s.tasks.length:=by rw [hkl];unfold kidsI;have:=List.length_filter_le (fun j=>decide (i<j) && decide ((s.t j).up=i)) (List.range s.tasks.length);simpa using this
    clear hkl ho2 hc2
    go_loopw [10,12,32] (fun v _ c wr=>∃ j:Nat,j≤kl.length∧c=.int .i64 j∧v=.int .i64 ((stand s (kl.take j)).length:Nat)∧Below w2.heap.size w2 wr) (fun _ _ c _=>kl.length-(intOf c).toNat)
    case atStart=>exact⟨0,Nat.zero_le _,rfl,by simp [stand],Below.refl _ _⟩
    case round =>
     obtain⟨j,hj,rfl,rfl,hbr⟩:=hrel
     have hwr:Below w.heap.size w wr:=below_then hw2 hw2.size hbr
     have zs:=(hbr.cell (p:=⟨w.heap.size+1,1,none⟩) hs2).trans ys1
     have za0:=(hbr.cell (p:=⟨w1.heap.size,0,none⟩) ha2).trans ya0
     have za2:=(hbr.cell (p:=⟨w1.heap.size,2,none⟩) ha2).trans ya2
     by_cases hjl:j<kl.length
     ·obtain⟨ak,rfl,hlk,hck0,_⟩:=at_int (hr2.belowAll hbr) (j:=j) (by simpa [ints] using hjl)
      have hck:wr.cell? (ak.add j)=some (.int .i64 (kl[j]:Nat)):=by simpa [ints] using hck0
      clear hck0
      have hkj:kl[j]<s.tasks.length:=hlt _ (List.getElem_mem hjl)
      obtain⟨ad',R',O',D',U',cr',co',cd',cu',he,hl',hrows',hat'⟩:=at_task (hT.belowAll hwr) hkj
      injection he with he
      subst he
      have m4:=hat'.c4
      have hst:=stand_next s kl j hjl
      rw [sys_t hkj] at hst
      have y1:(j:Int)<kl.length:=by omega
      have y3:(0:Int)≤j:=by omega
      have y4:(kl[j]:Int)<s.tasks.length:=by omega
      have y5:(0:Int)≤(kl[j]:Int):=by omega
      have hsl:(stand s (kl.take j)).length≤j:=by
       have:=List.length_filter_le (fun k=>decide ((s.t k).way≠4)) (kl.take j)
       rw [List.length_take] at this
       unfold stand;omega
      obtain⟨n0,hn0⟩:∃ n0,n0=(stand s (kl.take j)).length:=⟨_,rfl⟩
      rw [← hn0] at hst hsl ⊢
      obtain⟨kj,hkjj⟩:∃ kj,kj=kl[j]:=⟨_,rfl⟩
      by_cases h4:(s.tasks[kl[j]]'hkj).way=4
      ·have b4:((s.tasks[kl[j]]'hkj).way != 4)=false:=by simp [h4]
       rw [if_neg (fun h=>h h4)] at hst
       have HST:=Lib.hid hst
       clear hst h4 hn0 hkjj hat' hrows'
       go_wp2
       go_roundw
       case rel=>exact⟨j+1,by omega,by go_num,by rw [HST.out];rfl,hbr⟩
       case measure=>simp [intOf];omega
      ·have b4:((s.tasks[kl[j]]'hkj).way != 4)=true:=by simp [h4]
       rw [if_pos h4] at hst
       have HST:=Lib.hid hst
       clear hst h4 hn0 hkjj hat' hrows'
       go_wp2
       go_roundw
       case rel=>exact⟨j+1,by omega,by go_num,by rw [HST.out];go_num,hbr⟩
       case measure=>simp [intOf];omega
     ·have hall:kl.take j=kl:=List.take_of_length_le (by omega)
      rw [hall]
      clear hall
      go_wp2
      go_ret
      exact⟨ret_bool (by rw [HS.out,if_pos H1.out,ET.out,decide_eq_true H2.out,HG.out,HKL.out];simp),hwr⟩
   ·have b2:((actGot p t).kind == 2)=false:=by rw [hgot];simp [h2]
    have H2:=Lib.hid h2
    clear et hgot h2
    go_enter Tryz.func86,Tryz.ntmps86
    go_wp2_with (first | (go_at_call 124;refine(actAt_calls p t P Q R O D U cp cq cr co cd cu _ S (hQ.belowAll (alB3 w _ _ _)) hbody hpc).mono ?_;rintro e w1 ⟨⟨G,K,cg,ck,rfl,hG,hK⟩,hb1⟩;rw [← HWW.out] at hb1;rw [ET.out];have ht1:w.heap.size+1+1<w1.heap.size:=Nat.lt_of_lt_of_le htb hb1.size;have hs1:w.heap.size+1<w1.heap.size:=Nat.lt_of_lt_of_le hs hb1.size;have hw1:Below w.heap.size w w1:=below_then hbW hbW.size hb1;have hbw1:=fun o=>below_then hw1 hw1.size (alB w1 o);have zt:=fun o=>((alB w1 o).cell (p:=⟨w.heap.size+1+1,4,none⟩) ht1).trans ((hb1.cell (p:=⟨w.heap.size+1+1,4,none⟩) htb).trans bt);have zs0:=fun o=>((alB w1 o).cell (p:=⟨w.heap.size+1,0,none⟩) hs1).trans ((hb1.cell (p:=⟨w.heap.size+1,0,none⟩) hs).trans bs0);have zs1:=fun o=>((alB w1 o).cell (p:=⟨w.heap.size+1,1,none⟩) hs1).trans ((hb1.cell (p:=⟨w.heap.size+1,1,none⟩) hs).trans bs1);have zs2:=fun o=>((alB w1 o).cell (p:=⟨w.heap.size+1,2,none⟩) hs1).trans ((hb1.cell (p:=⟨w.heap.size+1,2,none⟩) hs).trans bs2);have zs3:=fun o=>((alB w1 o).cell (p:=⟨w.heap.size+1,3,none⟩) hs1).trans ((hb1.cell (p:=⟨w.heap.size+1,3,none⟩) hs).trans bs3)) | (go_at_call 126;refine(treeKids_calls s i A (some ad) C ca cb cc _ S (hT.belowAll (hbw1 _)) hi (by omega)).mono ?_;rintro e w2 ⟨v2,rfl,ho2,hb2⟩;obtain⟨A2,c2,rfl,hc2,hr2⟩:=OwnI.row ho2;rw [show (ints (kidsI s i)).length=(kidsI s i).length by simp [ints]] at *;have hw2:Below w.heap.size w w2:=below_then (hbw1 _) (by have:=hw1.size;simp;omega) hb2;have ys1:=(hb2.cell (p:=⟨w.heap.size+1,1,none⟩) (by simp;omega)).trans (zs1 _);have hs2:w.heap.size+1<w2.heap.size:=Nat.lt_of_lt_of_le (by simp;omega) hb2.size;have ya0:=(hb2.cell (p:=⟨w1.heap.size,0,none⟩) (by simp)).trans (show _=some (.int .i64 (actGot p t).kind) by simp [go_sem]);have ya2:=(hb2.cell (p:=⟨w1.heap.size,2,none⟩) (by simp)).trans (show _=some (.slice K (actGot p t).kids.length ck) by simp [go_sem]);have ha2:w1.heap.size<w2.heap.size:=Nat.lt_of_lt_of_le (by simp) hb2.size))
    obtain⟨kl,hkl⟩:∃ kl,kl=kidsI s i:=⟨_,rfl⟩
    rw [← hkl] at hr2 ⊢
    have hlt:=kidsI_lt s i
    rw [← hkl] at hlt
    have HKL:=Lib.hid hkl
    have hmk:kl.length≤9223372036854775807:=by have:=hr2.1;simpa [ints] using this
    have hkn:kl.length≤s.tasks.length:=by rw [hkl];unfold kidsI;have:=List.length_filter_le (fun j=>decide (i<j) && decide ((s.t j).up=i)) (List.range s.tasks.length);simpa using this
    clear hkl ho2 hc2
    go_loopw [10,12,32] (fun v _ c wr=>∃ j:Nat,j≤kl.length∧c=.int .i64 j∧v=.int .i64 ((stand s (kl.take j)).length:Nat)∧Below w2.heap.size w2 wr) (fun _ _ c _=>kl.length-(intOf c).toNat)
    case atStart=>exact⟨0,Nat.zero_le _,rfl,by simp [stand],Below.refl _ _⟩
    case round =>
     obtain⟨j,hj,rfl,rfl,hbr⟩:=hrel
     have hwr:Below w.heap.size w wr:=below_then hw2 hw2.size hbr
     have zs:=(hbr.cell (p:=⟨w.heap.size+1,1,none⟩) hs2).trans ys1
     have za0:=(hbr.cell (p:=⟨w1.heap.size,0,none⟩) ha2).trans ya0
     have za2:=(hbr.cell (p:=⟨w1.heap.size,2,none⟩) ha2).trans ya2
     by_cases hjl:j<kl.length
     ·obtain⟨ak,rfl,hlk,hck0,_⟩:=at_int (hr2.belowAll hbr) (j:=j) (by simpa [ints] using hjl)
      have hck:wr.cell? (ak.add j)=some (.int .i64 (kl[j]:Nat)):=by simpa [ints] using hck0
      clear hck0
      have hkj:kl[j]<s.tasks.length:=hlt _ (List.getElem_mem hjl)
      obtain⟨ad',R',O',D',U',cr',co',cd',cu',he,hl',hrows',hat'⟩:=at_task (hT.belowAll hwr) hkj
      injection he with he
      subst he
      have m4:=hat'.c4
      have hst:=stand_next s kl j hjl
      rw [sys_t hkj] at hst
      have y1:(j:Int)<kl.length:=by omega
      have y3:(0:Int)≤j:=by omega
      have y4:(kl[j]:Int)<s.tasks.length:=by omega
      have y5:(0:Int)≤(kl[j]:Int):=by omega
      have hsl:(stand s (kl.take j)).length≤j:=by
       have:=List.length_filter_le (fun k=>decide ((s.t k).way≠4)) (kl.take j)
       rw [List.length_take] at this
       unfold stand;omega
      obtain⟨n0,hn0⟩:∃ n0,n0=(stand s (kl.take j)).length:=⟨_,rfl⟩
      rw [← hn0] at hst hsl ⊢
      obtain⟨kj,hkjj⟩:∃ kj,kj=kl[j]:=⟨_,rfl⟩
      by_cases h4:(s.tasks[kl[j]]'hkj).way=4
      ·have b4:((s.tasks[kl[j]]'hkj).way != 4)=false:=by simp [h4]
       rw [if_neg (fun h=>h h4)] at hst
       have HST:=Lib.hid hst
       clear hst h4 hn0 hkjj hat' hrows'
       go_wp2
       go_roundw
       case rel=>exact⟨j+1,by omega,by go_num,by rw [HST.out];rfl,hbr⟩
       case measure=>simp [intOf];omega
      ·have b4:((s.tasks[kl[j]]'hkj).way != 4)=true:=by simp [h4]
       rw [if_pos h4] at hst
       have HST:=Lib.hid hst
       clear hst h4 hn0 hkjj hat' hrows'
       go_wp2
       go_roundw
       case rel=>exact⟨j+1,by omega,by go_num,by rw [HST.out];go_num,hbr⟩
       case measure=>simp [intOf];omega
     ·have hall:kl.take j=kl:=List.take_of_length_le (by omega)
      rw [hall]
      clear hall
      go_wp2
      go_ret
      exact⟨ret_bool (by rw [HS.out,if_pos H1.out,ET.out,decide_eq_false H2.out];rfl),hwr⟩
 ·have b1:(t.way == 1)=false:=by simp [h1]
  by_cases h2:t.way=2
  ·have b2:(t.way == 2)=true:=by simp [h2]
   have H1:=Lib.hid (And.intro h1 h2)
   clear h1 h2
   cases et:p.there t
   all_goals
    have ET:=Lib.hid et
    clear et
    go_enter Tryz.func86,Tryz.ntmps86
    go_wp2_with (go_at_call 124;refine(actAt_calls p t P Q R O D U cp cq cr co cd cu _ S (hQ.belowAll (alB3 w _ _ _)) hbody hpc).mono ?_;rintro e w1 ⟨⟨G,K,cg,ck,rfl,hG,hK⟩,hb1⟩;rw [← HWW.out] at hb1;rw [ET.out];have ht1:w.heap.size+1+1<w1.heap.size:=Nat.lt_of_lt_of_le htb hb1.size;have hs1:w.heap.size+1<w1.heap.size:=Nat.lt_of_lt_of_le hs hb1.size;have hw1:Below w.heap.size w w1:=below_then hbW hbW.size hb1;have hbw1:=fun o=>below_then hw1 hw1.size (alB w1 o);have zt:=fun o=>((alB w1 o).cell (p:=⟨w.heap.size+1+1,4,none⟩) ht1).trans ((hb1.cell (p:=⟨w.heap.size+1+1,4,none⟩) htb).trans bt);have zs0:=fun o=>((alB w1 o).cell (p:=⟨w.heap.size+1,0,none⟩) hs1).trans ((hb1.cell (p:=⟨w.heap.size+1,0,none⟩) hs).trans bs0);have zs1:=fun o=>((alB w1 o).cell (p:=⟨w.heap.size+1,1,none⟩) hs1).trans ((hb1.cell (p:=⟨w.heap.size+1,1,none⟩) hs).trans bs1);have zs2:=fun o=>((alB w1 o).cell (p:=⟨w.heap.size+1,2,none⟩) hs1).trans ((hb1.cell (p:=⟨w.heap.size+1,2,none⟩) hs).trans bs2);have zs3:=fun o=>((alB w1 o).cell (p:=⟨w.heap.size+1,3,none⟩) hs1).trans ((hb1.cell (p:=⟨w.heap.size+1,3,none⟩) hs).trans bs3))
    go_ret
    exact⟨ret_bool (by rw [HS.out,if_neg H1.out.1,if_pos H1.out.2,ET.out];rfl),hbw1 _⟩
  ·have b2:(t.way == 2)=false:=by simp [h2]
   have H1:=Lib.hid (And.intro h1 h2)
   clear h1 h2
   cases et:p.there t
   all_goals
    have ET:=Lib.hid et
    clear et
    go_enter Tryz.func86,Tryz.ntmps86
    go_wp2_with (go_at_call 124;refine(actAt_calls p t P Q R O D U cp cq cr co cd cu _ S (hQ.belowAll (alB3 w _ _ _)) hbody hpc).mono ?_;rintro e w1 ⟨⟨G,K,cg,ck,rfl,hG,hK⟩,hb1⟩;rw [← HWW.out] at hb1;rw [ET.out];have ht1:w.heap.size+1+1<w1.heap.size:=Nat.lt_of_lt_of_le htb hb1.size;have hs1:w.heap.size+1<w1.heap.size:=Nat.lt_of_lt_of_le hs hb1.size;have hw1:Below w.heap.size w w1:=below_then hbW hbW.size hb1;have hbw1:=fun o=>below_then hw1 hw1.size (alB w1 o);have zt:=fun o=>((alB w1 o).cell (p:=⟨w.heap.size+1+1,4,none⟩) ht1).trans ((hb1.cell (p:=⟨w.heap.size+1+1,4,none⟩) htb).trans bt);have zs0:=fun o=>((alB w1 o).cell (p:=⟨w.heap.size+1,0,none⟩) hs1).trans ((hb1.cell (p:=⟨w.heap.size+1,0,none⟩) hs).trans bs0);have zs1:=fun o=>((alB w1 o).cell (p:=⟨w.heap.size+1,1,none⟩) hs1).trans ((hb1.cell (p:=⟨w.heap.size+1,1,none⟩) hs).trans bs1);have zs2:=fun o=>((alB w1 o).cell (p:=⟨w.heap.size+1,2,none⟩) hs1).trans ((hb1.cell (p:=⟨w.heap.size+1,2,none⟩) hs).trans bs2);have zs3:=fun o=>((alB w1 o).cell (p:=⟨w.heap.size+1,3,none⟩) hs1).trans ((hb1.cell (p:=⟨w.heap.size+1,3,none⟩) hs).trans bs3))
    go_ret
    exact⟨ret_bool (by rw [HS.out,if_neg H1.out.1,if_neg H1.out.2]),hbw1 _⟩
end Go.Proofs.YtjacjafmimgfcaaGreat
