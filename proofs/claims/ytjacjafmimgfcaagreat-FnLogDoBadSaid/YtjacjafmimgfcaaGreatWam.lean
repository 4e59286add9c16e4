/- The reference's look at a system: lists of cells and numbers.; The reference's look at a system: a task's place, times; who begins whom.; The reference's machine: small steps.; The reference's machine: cells are let go; a change begins anew.; The reference's machine: a change begins anew; what a task cannot see. -/
import Derived.Deep.QuietTactic
import Derived.Deep.RegionHeld3
import Derived.Deep.DrawnRows
import Derived.Test.YtjacjafmimgfcaaGreatWad
import Derived.Test.YtjacjafmimgfcaaGreatWag
import Derived.Test.YtjacjafmimgfcaaGreatWah
import Derived.Test.YtjacjafmimgfcaaGreatWal
set_option maxHeartbeats 2000000
set_option maxRecDepth 100000
set_option linter.unusedVariables false
set_option linter.unusedSimpArgs false
namespace Go.Proofs.YtjacjafmimgfcaaGreat
open Go.RowKit
theorem l6In_drew (a b c:Int)(r:Bool)(hr:inR a b c=r)(w:World)(n:Nat):Calls Tryz.prog 67 #[.int .i64 a,.int .i64 b,.int .i64 c] (w.drewN n) fun e w'=>e=.returned (.bool r)∧w'=w.drewN n :=
 (l6In_calls a b c (w.drewN n)).mono fun e w' h=>⟨by rw [h.1,hr],h.2.symm⟩
theorem alB (w:World)(o:Obj):Below w.heap.size w (w.alloc o):=(Below.refl _ _).alloc (Nat.le_refl _) o
theorem alB2 (w:World)(o1 o2:Obj):Below w.heap.size w ((w.alloc o1).alloc o2):=(alB w o1).alloc (by simp) o2
theorem alB3 (w:World)(o1 o2 o3:Obj):Below w.heap.size w (((w.alloc o1).alloc o2).alloc o3):=(alB2 w o1 o2).alloc (by simp;omega) o3
theorem alB4 (w:World)(o1 o2 o3 o4:Obj):Below w.heap.size w ((((w.alloc o1).alloc o2).alloc o3).alloc o4):=(alB3 w o1 o2 o3).alloc (by simp;omega) o4
theorem below_drewN1 {w0 w:World}(h:Below w0.heap.size w0 w)(n:Nat):Below w0.heap.size w0 (w.drewN n):=below_drewN' h n
theorem l12List_calls (l:List Put)(A:Option Addr)(cap:Nat)(n:Int)(w:World)(S:Nat→Prop)(hr:Row kPut w S A l)(h0:0≤n)(h1:n≤9223372036854775807) :
  Calls Tryz.prog 109 #[.slice A l.length cap,.int .i64 n] w fun e w'=>e=.returned (.bool (putsOk l n))∧Below w.heap.size w w':=by
 have hm:=hr.1
 have hwr:IntKind.i64.wrap (n-1)=n-1:=IntWalk.i64_in _ (by omega)
 go_enter Tryz.func109,Tryz.ntmps109
 go_wp2
 go_loopw [5] (fun i wr=>∃ k:Nat,k≤l.length∧i=.int .i64 k∧Hid ((List.range k).all (putAtOk l n)=true)∧Below w.heap.size w wr) (fun i _=>l.length-(intOf i).toNat)
 case atStart=>exact⟨0,Nat.zero_le _,rfl,by simp [Hid],Below.refl _ _⟩
 case round =>
  obtain⟨k,hk,rfl,HA,hbr⟩:=hrel
  by_cases hlt:k<l.length
  ·obtain⟨ad,rfl,hl,c0,c1⟩:=at_put (hr.belowAll hbr) hlt
   have hat:putAtOk l n k=(inR l[k].cell 0 (n-1) && inR l[k].num 0 99 && (decide (k=0) || decide ((l.getD (k-1) noPut).cell<l[k].cell))):=by unfold putAtOk;rw [getD_at _ _ _ hlt]
   have HAT:=Lib.hid hat
   clear hat
   have x1:(k:Int)<l.length:=by omega
   have x3:(0:Int)≤k:=by omega
   have hbad:putAtOk l n k=false→putsOk l n=false:=fun h=>range_all_false _ _ k hlt h
   cases e1:inR l[k].cell 0 (n-1) with
   | false =>
    have hc1:=l6In_drew _ _ _ _ e1 wr
    have HB:=Lib.hid (hbad (by rw [HAT.out,e1];rfl))
    clear e1 hbad
    go_wp2
    go_quiet (first | (go_at_call 67;with_reducible refine Calls.quiet_of_same (hc1 _)))
    go_wp2
    go_ret
    exact⟨ret_bool HB.out.symm,by repeat' (first | exact hbr | apply below_drewN1)⟩
   | true =>
    have hc1:=l6In_drew _ _ _ _ e1 wr
    cases e2:inR l[k].num 0 99 with
    | false =>
     have hc2:=l6In_drew _ _ _ _ e2 wr
     have HB:=Lib.hid (hbad (by rw [HAT.out,e1,e2];rfl))
     clear e1 e2 hbad
     go_wp2
     go_quiet (first | (go_at_call 67;with_reducible refine Calls.quiet_of_same (hc1 _)) | (go_at_call 67;with_reducible refine Calls.quiet_of_same (hc2 _)))
     go_wp2
     go_ret
     exact⟨ret_bool HB.out.symm,by repeat' (first | exact hbr | apply below_drewN1)⟩
    | true =>
     have hc2:=l6In_drew _ _ _ _ e2 wr
     rcases Nat.eq_zero_or_pos k with hk0 | hk0
     ·subst hk0
      have HG:=Lib.hid (show putAtOk l n 0=true by rw [HAT.out,e1,e2];rfl)
      have d0:wr.cell? ad=some (.int .i64 l[0].cell):=by simpa [Addr.add] using c0
      have d1:wr.cell? ⟨ad.block,ad.off+1,none⟩=some (.int .i64 l[0].num):=by simpa [Addr.add] using c1
      have y1:(0:Int)<l.length:=by omega
      clear e1 e2 hbad c0 c1
      go_wp2
      go_quiet (first | (go_at_call 67;with_reducible refine Calls.quiet_of_same (hc1 _)) | (go_at_call 67;with_reducible refine Calls.quiet_of_same (hc2 _)))
      go_wp2
      go_roundw
      case rel=>exact⟨1,by omega,by go_num,by unfold Hid;rw [range_all_succ,HG.out];rfl,by repeat' (first | exact hbr | apply below_drewN1)⟩
      case measure=>simp [intOf];omega
     ·obtain⟨m,rfl⟩:∃ m,k=m+1:=⟨k-1,by omega⟩
      have hlm:m<l.length:=by omega
      obtain⟨ad',he,hl',d0,d1⟩:=at_put (hr.belowAll hbr) hlm
      injection he with he
      subst he
      have e5:l.getD (m+1-1) noPut=l[m]:=by rw [show m+1-1=m from rfl,getD_at _ _ _ hlm]
      have y1:((m+1:Nat):Int) > 0:=by omega
      have y2:(m:Int)<l.length:=by omega
      have y3:IntKind.i64.wrap (((m+1:Nat):Int)-1)=(m:Int):=by rw [show ((m+1:Nat):Int)-1=(m:Int) by omega];exact IntWalk.i64_in _ (by omega)
      by_cases e3:l[m].cell<l[m+1].cell
      ·have HG:=Lib.hid (show putAtOk l n (m+1)=true by rw [HAT.out,e1,e2,e5,decide_eq_true e3];simp)
       have y4:¬ (l[m].cell ≥ l[m+1].cell):=by omega
       clear e1 e2 hbad
       go_wp2
       go_quiet (first | (go_at_call 67;with_reducible refine Calls.quiet_of_same (hc1 _)) | (go_at_call 67;with_reducible refine Calls.quiet_of_same (hc2 _)))
       go_wp2
       go_roundw
       case rel=>exact⟨m+1+1,by omega,by go_num,by unfold Hid;rw [range_all_succ,HA.out,HG.out];rfl,by repeat' (first | exact hbr | apply below_drewN1)⟩
       case measure=>simp [intOf];omega
      ·have HB:=Lib.hid (hbad (by rw [HAT.out,e1,e2,e5,decide_eq_false e3];simp))
       have y4:l[m].cell ≥ l[m+1].cell:=by omega
       clear e1 e2 hbad
       go_wp2
       go_quiet (first | (go_at_call 67;with_reducible refine Calls.quiet_of_same (hc1 _)) | (go_at_call 67;with_reducible refine Calls.quiet_of_same (hc2 _)))
       go_wp2
       go_ret
       exact⟨ret_bool HB.out.symm,by repeat' (first | exact hbr | apply below_drewN1)⟩
  ·have:=HA.out
   rw [show k=l.length by omega] at this
   have HB:=Lib.hid (show putsOk l n=true from this)
   clear this
   go_wp2
   go_ret
   exact⟨ret_bool HB.out.symm,hbr⟩
end Go.Proofs.YtjacjafmimgfcaaGreat
namespace Go.Proofs.YtjacjafmimgfcaaGreat
open Go.RowKit
theorem l12At_calls (t:Task)(R O D U:Option Addr)(cr co cd cu:Nat)(n:Int)(w:World)(hd:t.reads.length≤1000)(hu:t.puts.length≤1000) :
  Calls Tryz.prog 146 #[.agg #[.int .i64 t.body,.int .i64 t.pc,.int .i64 t.up,.slice R t.regs.length cr,.int .i64 t.way,.int .i64 t.stage,.int .i64 t.pos,.int .i64 t.since,.slice O t.old.length co,.slice D t.reads.length cd,.slice U t.puts.length cu,.int .i64 t.whn,.int .i64 t.frm],.int .i64 n] w fun e w'=>e=.returned (.bool (posOk t n))∧Below w.heap.size w w':=by
 have hb:=fun o=>alB w o
 have hs:IntKind.i64.wrap ((t.reads.length:Int)+t.puts.length)=(t.reads.length:Int)+t.puts.length:=IntWalk.i64_in _ (by omega)
 have hs2:IntKind.i64.wrap ((t.puts.length:Int)-1)=(t.puts.length:Int)-1:=IntWalk.i64_in _ (by omega)
 by_cases e0:t.stage=0
 ·go_enter Tryz.func146,Tryz.ntmps146
  go_wp2
  all_goals
   go_ret
   refine⟨ret_bool ?_,hb _⟩
   unfold posOk
   simp_all<;>rfl
 ·by_cases e1:t.stage=1
  ·go_enter Tryz.func146,Tryz.ntmps146
   go_wp2_with (go_at_call 67;refine(l6In_calls _ _ _ _).mono ?_;rintro e w' ⟨rfl,rfl⟩)
   go_ret
   exact⟨ret_bool (by unfold posOk;rw [e1];rfl),hb _⟩
  ·by_cases e3:t.stage=3
   ·go_enter Tryz.func146,Tryz.ntmps146
    go_wp2
    all_goals
     go_ret
     refine⟨ret_bool ?_,hb _⟩
     unfold posOk
     simp_all
   ·by_cases e4:t.stage=4
    ·cases e5:inR t.pos 0 t.reads.length
     all_goals
      have E5:=Lib.hid e5
      clear e5
      go_enter Tryz.func146,Tryz.ntmps146
      go_wp2_with (go_at_call 67;refine(l6In_calls _ _ _ _).mono ?_;rintro e w' ⟨rfl,rfl⟩;rw [E5.out])
      go_ret
      refine⟨ret_bool ?_,hb _⟩
      unfold posOk
      simp [e4,E5.out]
    ·go_enter Tryz.func146,Tryz.ntmps146
     go_wp2_with (go_at_call 67;refine(l6In_calls _ _ _ _).mono ?_;rintro e w' ⟨rfl,rfl⟩)
     go_ret
     exact⟨ret_bool (by unfold posOk;simp [e0,e1,e3,e4]),hb _⟩
theorem l12Times_calls (t:Task)(s:Sys)(R O D U A B C:Option Addr)(cr co cd cu ca cb cc:Nat)(w:World)(h0:0≤s.clock)(h1:s.clock≤200)(hl:s.log.length≤9223372036854775807) :
  Calls Tryz.prog 110 #[.agg #[.int .i64 t.body,.int .i64 t.pc,.int .i64 t.up,.slice R t.regs.length cr,.int .i64 t.way,.int .i64 t.stage,.int .i64 t.pos,.int .i64 t.since,.slice O t.old.length co,.slice D t.reads.length cd,.slice U t.puts.length cu,.int .i64 t.whn,.int .i64 t.frm],.agg #[.slice A s.cells.length ca,.slice B s.tasks.length cb,.int .i64 s.clock,.slice C s.log.length cc]] w fun e w'=>e=.returned (.bool (timesOk t s.clock s.log.length))∧Below w.heap.size w w':=by
 have hb:=fun o o'=>alB2 w o o'
 have hs:IntKind.i64.wrap (s.clock+1)=s.clock+1:=IntWalk.i64_in _ (by omega)
 cases e1:inR t.since 0 s.clock with
 | false =>
  have E1:=Lib.hid e1
  clear e1
  go_enter Tryz.func110,Tryz.ntmps110
  go_wp2_with (go_at_call 67;refine(l6In_calls _ _ _ _).mono ?_;rintro e w' ⟨rfl,rfl⟩;rw [E1.out])
  go_ret
  exact⟨ret_bool (by unfold timesOk;rw [E1.out];rfl),hb _ _⟩
 | true =>
  have E1:=Lib.hid e1
  have hsi:0≤t.since∧t.since≤s.clock:=by simpa [inR] using e1
  have hs2:IntKind.i64.wrap (t.since+1)=t.since+1:=IntWalk.i64_in _ (by omega)
  clear e1
  cases e2:inR t.frm 0 s.log.length with
  | false =>
   have E2:=Lib.hid e2
   clear e2
   have tok:True:=trivial
   go_enter Tryz.func110,Tryz.ntmps110
   go_wp2_with (first | (go_at_call 67;have _t:=tok;refine(l6In_calls _ _ _ _).mono ?_;rintro e w' ⟨rfl,rfl⟩;rw [E1.out];clear tok) | (go_at_call 67;refine(l6In_calls _ _ _ _).mono ?_;rintro e w' ⟨rfl,rfl⟩;rw [E2.out]))
   go_ret
   exact⟨ret_bool (by unfold timesOk;rw [E1.out,E2.out];rfl),hb _ _⟩
  | true =>
   have E2:=Lib.hid e2
   clear e2
   have tok:True:=trivial
   have tok2:True:=trivial
   by_cases g0:t.stage=0
   ·go_enter Tryz.func110,Tryz.ntmps110
    go_wp2_with (first | (go_at_call 67;have _t:=tok;refine(l6In_calls _ _ _ _).mono ?_;rintro e w' ⟨rfl,rfl⟩;rw [E1.out];clear tok) | (go_at_call 67;have _t:=tok2;refine(l6In_calls _ _ _ _).mono ?_;rintro e w' ⟨rfl,rfl⟩;rw [E2.out];clear tok2) | (go_at_call 67;refine(l6In_calls _ _ _ _).mono ?_;rintro e w' ⟨rfl,rfl⟩))
    go_ret
    exact⟨ret_bool (by unfold timesOk;rw [E1.out,E2.out];simp [g0]),hb _ _⟩
   ·by_cases g4:t.stage=4
    ·go_enter Tryz.func110,Tryz.ntmps110
     go_wp2_with (first | (go_at_call 67;have _t:=tok;refine(l6In_calls _ _ _ _).mono ?_;rintro e w' ⟨rfl,rfl⟩;rw [E1.out];clear tok) | (go_at_call 67;have _t:=tok2;refine(l6In_calls _ _ _ _).mono ?_;rintro e w' ⟨rfl,rfl⟩;rw [E2.out];clear tok2) | (go_at_call 67;refine(l6In_calls _ _ _ _).mono ?_;rintro e w' ⟨rfl,rfl⟩))
     go_ret
     exact⟨ret_bool (by unfold timesOk;rw [E1.out,E2.out];simp [g4]),hb _ _⟩
    ·by_cases g5:t.stage=5
     ·go_enter Tryz.func110,Tryz.ntmps110
      go_wp2_with (first | (go_at_call 67;have _t:=tok;refine(l6In_calls _ _ _ _).mono ?_;rintro e w' ⟨rfl,rfl⟩;rw [E1.out];clear tok) | (go_at_call 67;have _t:=tok2;refine(l6In_calls _ _ _ _).mono ?_;rintro e w' ⟨rfl,rfl⟩;rw [E2.out];clear tok2) | (go_at_call 67;refine(l6In_calls _ _ _ _).mono ?_;rintro e w' ⟨rfl,rfl⟩))
      go_ret
      exact⟨ret_bool (by unfold timesOk;rw [E1.out,E2.out];simp [g5]),hb _ _⟩
     ·go_enter Tryz.func110,Tryz.ntmps110
      go_wp2_with (first | (go_at_call 67;have _t:=tok;refine(l6In_calls _ _ _ _).mono ?_;rintro e w' ⟨rfl,rfl⟩;rw [E1.out];clear tok) | (go_at_call 67;have _t:=tok2;refine(l6In_calls _ _ _ _).mono ?_;rintro e w' ⟨rfl,rfl⟩;rw [E2.out];clear tok2) | (go_at_call 67;refine(l6In_calls _ _ _ _).mono ?_;rintro e w' ⟨rfl,rfl⟩))
      go_ret
      exact⟨ret_bool (by unfold timesOk;rw [E1.out,E2.out];simp [g0,g4,g5];rfl),hb _ _⟩
theorem kidsOf_take (s:Sys)(task way:Int)(k:Nat)(hk:k<s.tasks.length):((s.tasks.take (k+1)).filter fun t=>decide (t.up=task) && decide (t.way=way)).length=((s.tasks.take k).filter fun t=>decide (t.up=task) && decide (t.way=way)).length+if s.tasks[k].up=task∧s.tasks[k].way=way then 1 else 0:=by
 rw [List.take_succ_eq_append_getElem hk,List.filter_append,List.length_append]
 congr 1
 by_cases h:s.tasks[k].up=task∧s.tasks[k].way=way
 ·rw [if_pos h];simp [h.1,h.2]
 ·rw [if_neg h]
  rw [List.filter_eq_nil_iff.2]
  ·rfl
  ·intro x hx
   rw [List.mem_singleton] at hx
   subst hx
   simpa using h
theorem kids_calls (s:Sys)(b:Nat)(B:Option Addr)(cb:Nat)(task way:Int)(w:World)(S:Nat→Prop)(hT:Row kTask w S B s.tasks)(h3:w.cell? ⟨b,3,none⟩=some (.slice B s.tasks.length cb)) :
  Calls Tryz.prog 147 #[.pointer (some ⟨b,0,none⟩),.int .i64 task,.int .i64 way] w fun e w'=>e=.returned (.int .i64 (kidsOf s task way))∧w=w':=by
 have hm:=hT.1
 go_enter Tryz.func147,Tryz.ntmps147
 go_wp2
 go_loop [7,8] (fun n i=>∃ k:Nat,k≤s.tasks.length∧i=.int .i64 k∧n=.int .i64 (((s.tasks.take k).filter fun t=>decide (t.up=task) && decide (t.way=way)).length:Nat)) (fun _ i=>s.tasks.length-(intOf i).toNat)
 case atStart=>exact⟨0,Nat.zero_le _,rfl,by simp⟩
 case round =>
  obtain⟨k,hk,rfl,rfl⟩:=hrel
  by_cases hlt:k<s.tasks.length
  ·obtain⟨ad,R,O,D,U,cr,co,cd,cu,rfl,hl,hrows,hat⟩:=at_task hT hlt
   have c2:=hat.c2
   have c4:=hat.c4
   have x1:(k:Int)<s.tasks.length:=by omega
   have x3:(0:Int)≤k:=by omega
   have hstep:=kidsOf_take s task way k hlt
   have hfl:=List.length_filter_le (fun t:Task=>decide (t.up=task) && decide (t.way=way)) (s.tasks.take k)
   rw [List.length_take] at hfl
   obtain⟨n,hn⟩:∃ n,n=((s.tasks.take k).filter fun t=>decide (t.up=task) && decide (t.way=way)).length:=⟨_,rfl⟩
   rw [← hn] at hstep hfl ⊢
   have HST:=Lib.hid hstep
   clear hn hstep
   by_cases e1:s.tasks[k].up=task
   ·by_cases e2:s.tasks[k].way=way
    ·have b1:(s.tasks[k].up == task)=true:=by simp [e1]
     have b2:(s.tasks[k].way == way)=true:=by simp [e2]
     have HE:=Lib.hid (And.intro e1 e2)
     clear e1 e2
     go_wp2
     go_round
     case rel=>exact⟨k+1,by omega,by go_num,by rw [HST.out,if_pos HE.out];go_num⟩
     case measure=>simp [intOf];omega
    ·have b1:(s.tasks[k].up == task)=true:=by simp [e1]
     have b2:(s.tasks[k].way == way)=false:=by simp [e2]
     have HE:=Lib.hid e2
     clear e1 e2
     go_wp2
     go_round
     case rel=>exact⟨k+1,by omega,by go_num,by rw [HST.out,if_neg (fun h=>HE.out h.2)];rfl⟩
     case measure=>simp [intOf];omega
   ·have b1:(s.tasks[k].up == task)=false:=by simp [e1]
    have HE:=Lib.hid e1
    clear e1
    go_wp2
    go_round
    case rel=>exact⟨k+1,by omega,by go_num,by rw [HST.out,if_neg (fun h=>HE.out h.1)];rfl⟩
    case measure=>simp [intOf];omega
  ·have e:kidsOf s task way=(((s.tasks.take k).filter fun t=>decide (t.up=task) && decide (t.way=way)).length:Nat):=by unfold kidsOf;rw [List.take_of_length_le (by omega)]
   have HE:=Lib.hid e
   clear e
   go_wp2
   go_ret
   exact⟨ret_int HE.out.symm,rfl⟩
end Go.Proofs.YtjacjafmimgfcaaGreat
namespace Go.Proofs.YtjacjafmimgfcaaGreat
open Go.RowKit
theorem wpList_clone_at {P:Program}{α:Type}{d:Kd α}{e:Nat}{w1:World}{S:Nat→Prop}{ys:List α}{ops:Array Oper}{rest:List Oper}{o:Oper}{a:Go.Act}{Q:Exit→Go.Act→World→Prop}(H:Nat)(hH:w1.heap.size=H)(hgd:o.guard=none)(s x:Operand)(t:TypeId)(ho:o.op=.call { callee:=.builtin .append,args:=#[s,x],argTypes:=#[t,t] })
  (ht:P.underlying t=some (.slice e)) (z:Value) (bytes:Nat) (hinfo:(P.info? e).map (fun i=>(i.zero,i.size,i.bytes))=some (some z,d.sz,bytes)) (hz:z.cells.size=d.sz) (hs0:0<d.sz) (hb0:0<bytes)
  (hs:a.eval s=.slice (some ⟨H,0,none⟩) 0 0) (A:Option Addr) (c:Nat) (hx:a.eval x=.slice A ys.length c) (HR:Row d w1 S A ys) (hl:ys.length*bytes≤140737488355328)
  (h:∀ v' w',Own d e w' w1.heap.size (fun k=>S k∨w1.heap.size≤k) v' ys→Below w1.heap.size w1 w'→wpList P ops Q rest (a.put o.dst v') w'):wpList P ops Q (o :: rest) a (w1.alloc (.cells #[] e)):=by
 subst hH;exact wpList_clone_kd hgd s x t ho ht z bytes hinfo hz hs0 hb0 hs A c hx HR hl h
theorem block13 {w:World}{B:Nat}{v0 v1 v2 v3 v4 v5 v6 v7 v8 v9 v10 v11 v12:Value}{T:TypeId}(h:w.heap[B]?=some (.cells #[v0,v1,v2,v3,v4,v5,v6,v7,v8,v9,v10,v11,v12] T (0,0))):w.cell? ⟨B,0,none⟩=some v0∧w.cell? ⟨B,1,none⟩=some v1∧w.cell? ⟨B,2,none⟩=some v2∧w.cell? ⟨B,3,none⟩=some v3∧w.cell? ⟨B,4,none⟩=some v4∧w.cell? ⟨B,5,none⟩=some v5∧w.cell? ⟨B,6,none⟩=some v6∧w.cell? ⟨B,7,none⟩=some v7∧w.cell? ⟨B,8,none⟩=some v8∧w.cell? ⟨B,9,none⟩=some v9∧w.cell? ⟨B,10,none⟩=some v10∧w.cell? ⟨B,11,none⟩=some v11∧w.cell? ⟨B,12,none⟩=some v12 :=
 ⟨cell_of_row w B 0 _ T _ h,cell_of_row w B 1 _ T _ h,cell_of_row w B 2 _ T _ h,cell_of_row w B 3 _ T _ h,cell_of_row w B 4 _ T _ h,cell_of_row w B 5 _ T _ h,cell_of_row w B 6 _ T _ h,cell_of_row w B 7 _ T _ h,cell_of_row w B 8 _ T _ h,cell_of_row w B 9 _ T _ h,cell_of_row w B 10 _ T _ h,cell_of_row w B 11 _ T _ h,cell_of_row w B 12 _ T _ h⟩
theorem setT_setT (s:Sys)(k:Nat)(a b:Task):(s.setT k a).setT k b=s.setT k b:=by simp [Sys.setT,List.set_set]
theorem setT_t {s:Sys}{k:Nat}(hk:k<s.tasks.length)(a:Task):(s.setT k a).t k=a:=by simp [Sys.setT,Sys.t,List.getD_eq_getElem?_getD,hk]
theorem setT_n (s:Sys)(k:Nat)(a:Task):(s.setT k a).tasks.length=s.tasks.length:=by simp [Sys.setT]
theorem ts_set {ts:List TV}{k:Nat}{x y:TV}(h:ts[k]?=some x):(ts.set k y)[k]?=some y:=by
 have:=(List.getElem?_eq_some_iff.1 h).1
 simp [this]
theorem MachO.max {m:Mc}{R:Nat→Role}{w:World}{vc vt vl:Value}{s:Sys}{ts:List TV}{es:List EV}(h:MachO m R w vc vt vl s ts es):s.tasks.length≤9223372036854775807:=by rw [← h.sys.n];exact Own.maxLen h.sys.t
theorem cell_far {w:World}{b b2 i j:Nat}{v:Value}{u:Option Value}(h:w.cell? ⟨b2,j,none⟩=u)(hn:b≠b2):(w.setCell ⟨b,i,none⟩ v).cell? ⟨b2,j,none⟩=u :=
 (World.cell?_setCell_other w ⟨b,i,none⟩ ⟨b2,j,none⟩ v (fun e=>hn (by injection e))).trans h
theorem cell_off {w:World}{b i j:Nat}{v:Value}{u:Option Value}(h:w.cell? ⟨b,j,none⟩=u)(hn:i≠j):(w.setCell ⟨b,i,none⟩ v).cell? ⟨b,j,none⟩=u :=
 (World.cell?_setCell_other w ⟨b,i,none⟩ ⟨b,j,none⟩ v (fun e=>hn (by injection e))).trans h
theorem set_al {w:World}{o:Obj}{n i:Nat}{v:Value}(h:n<w.heap.size):(w.alloc o).setCell ⟨n,i,none⟩ v=(w.setCell ⟨n,i,none⟩ v).alloc o:=World.setCell_alloc_past o n i v h
theorem MachO.see {m:Mc}{R:Nat→Role}{w:World}{vc vl:Value}{s:Sys}{ts:List TV}{es:List EV}{gt n cap j:Nat}{x:TV}(h:MachO m R w vc (.slice (some ⟨gt,0,none⟩) n cap) vl s ts es)(hx:ts[j]?=some x) :
  gt≠m.g∧gt<w.heap.size∧m.g<w.heap.size∧w.cell? ⟨m.g,2,none⟩=some vc∧w.cell? ⟨m.g,3,none⟩=some (.slice (some ⟨gt,0,none⟩) n cap)∧w.cell? ⟨m.g,4,none⟩=some (.int .i64 s.clock)∧w.cell? ⟨m.g,5,none⟩=some vl∧TaskAt w ⟨gt,j*13,none⟩ x.t x.r x.o x.d x.u∧(∀ i,w.frozen? ⟨gt,i,none⟩=false)∧(∀ i,w.frozen? ⟨m.g,i,none⟩=false):=by
 have hj:j<s.tasks.length:=by rw [← h.sys.n];exact(List.getElem?_eq_some_iff.1 hx).1
 obtain⟨gt',cap',x',e,_,_,_,hlt,hne,hx',hxt,hat,hfz⟩:=h.task hj
 injection e with e1 e2 e3
 injection e1 with e1
 injection e1 with e1
 subst e1
 rw [hx] at hx'
 injection hx' with hx'
 subst hx'
 rw [← hxt] at hat
 obtain⟨g0,g1,g2,g3,g4,g5⟩:=h.cells
 exact⟨hne,hlt,h.gl,g2,g3,g4,g5,hat,hfz,h.frozen⟩
theorem MachO.at_ {m:Mc}{R:Nat→Role}{w:World}{vc vt vl:Value}{s:Sys}{ts:List TV}{es:List EV}{j:Nat}(h:MachO m R w vc vt vl s ts es)(hj:j<s.tasks.length):∃ gt cap Ar cr Ao co Ad cd Au cu,
  vt=.slice (some ⟨gt,0,none⟩) s.tasks.length cap∧ts[j]?=some ⟨s.t j,.slice Ar (s.t j).regs.length cr,.slice Ao (s.t j).old.length co,.slice Ad (s.t j).reads.length cd,.slice Au (s.t j).puts.length cu⟩ ∧
  Row Kd.int w (fun k=>(Value.slice Ar (s.t j).regs.length cr).ownBlock=some k) Ar (s.t j).regs∧Row Kd.int w (fun k=>(Value.slice Ao (s.t j).old.length co).ownBlock=some k) Ao (s.t j).old∧Row kPut w (fun k=>(Value.slice Ad (s.t j).reads.length cd).ownBlock=some k) Ad (s.t j).reads∧Row kPut w (fun k=>(Value.slice Au (s.t j).puts.length cu).ownBlock=some k) Au (s.t j).puts:=by
 obtain⟨gt,cap,x,e,_,_,_,_,_,hx,hxt,_,_⟩:=h.task hj
 obtain⟨t,r,o,d,u⟩:=x
 simp only at hxt
 subst hxt
 have hx':=h.sys.tt j _ hx
 obtain⟨A1,c1,e1,_,r1⟩:=hx'.r.row
 obtain⟨A2,c2,e2,_,r2⟩:=hx'.o.row
 obtain⟨A3,c3,e3,_,r3⟩:=hx'.d.row
 obtain⟨A4,c4,e4,_,r4⟩:=hx'.u.row
 simp only at e1 e2 e3 e4 r1 r2 r3 r4
 subst e1;subst e2;subst e3;subst e4
 exact⟨gt,cap,A1,c1,A2,c2,A3,c3,A4,c4,e,hx,r1,r2,r3,r4⟩
theorem ownF_empty {α:Type}(d:Kd α)(hp:d.plain)(e:Nat)(w:World)(base:Nat)(hb:base≤w.heap.size):OwnF d e (w.alloc (.cells #[] e)) base (.slice (some ⟨w.heap.size,0,none⟩) 0 0) []:=OwnF.of hp (Own.empty_ d e w base (fun _=>True) hb trivial)
theorem MachO.bl {m:Mc}{R:Nat→Role}{w:World}{vc vt vl:Value}{s:Sys}{ts:List TV}{es:List EV}(h:MachO m R w vc vt vl s ts es):m.base≤w.heap.size:=Nat.le_trans h.ge (Nat.le_of_lt h.gl)
def Steps (m:Mc) (s:Sys) (vt:Value) (e:Ending) (w:World):Prop:=e=.returned (.tuple #[])∧Mach m s vt w
theorem stage_calls (m:Mc)(s:Sys)(vt:Value)(w:World)(k:Nat)(n:Int)(h:Mach m s vt w)(hk:k<s.tasks.length) :
  Calls Tryz.prog 166 #[.pointer (some ⟨m.g,0,none⟩),.int .i64 k,.int .i64 n] w (Steps m (s.setT k (stageT (s.t k) n)) vt):=by
 obtain⟨R,vc,vl,ts,es,H⟩:=h
 obtain⟨gt,cap,x,rfl,hcap,hRt,hbt,hlt,hne,hx,hxt,hat,hfz⟩:=H.task hk
 obtain⟨g0,g1,g2,g3,g4,g5⟩:=H.cells
 have hmax:=H.max
 have c5:=hat.c5
 have c6:=hat.c6
 have x1:(k:Int)<s.tasks.length:=by omega
 have x3:(0:Int)≤k:=by omega
 have HXT:=Lib.hid hxt
 clear hxt
 go_enter Tryz.func166,Tryz.ntmps166
 go_wp2
 go_end0
 refine⟨rfl,?_⟩
 have M2:=(H.int hx 5 (by omega) n { x.t with stage:=n } rfl rfl rfl rfl rfl).int (ts_set hx) 6 (by omega) 0 { x.t with stage:=n,pos:=0 } rfl rfl rfl rfl rfl
 rw [setT_setT,HXT.out] at M2
 exact M2.mach
end Go.Proofs.YtjacjafmimgfcaaGreat
namespace Go.Proofs.YtjacjafmimgfcaaGreat
open Go.RowKit
attribute [local go_sem ↓] Go.wp_at_zero Go.wp_at_succ
def freeTo (cells:List Cell) (k:Int) (n:Nat):List Cell:=freed (cells.take n) k ++ cells.drop n
theorem freeTo_len (cells:List Cell)(k:Int)(n:Nat)(h:n≤cells.length):(freeTo cells k n).length=cells.length:=by simp [freeTo,freed];omega
theorem freeTo_all (cells:List Cell)(k:Int):freeTo cells k cells.length=freed cells k:=by simp [freeTo]
theorem freeTo_get (cells:List Cell)(k:Int)(n:Nat)(h:n<cells.length):(freeTo cells k n)[n]?=some cells[n]:=by
 unfold freeTo freed
 rw [List.getElem?_append_right (by simp;omega)]
 simp [Nat.min_eq_left (Nat.le_of_lt h),h]
theorem freeTo_at (cells:List Cell)(k:Int)(n:Nat)(h:n<cells.length)(h2:n<(freeTo cells k n).length):(freeTo cells k n)[n]=cells[n]:=by
 have:=freeTo_get cells k n h
 rw [List.getElem?_eq_getElem h2] at this
 exact Option.some.inj this
theorem freeTo_next (cells:List Cell)(k:Int)(n:Nat)(h:n<cells.length):freeTo cells k (n+1)=(freeTo cells k n).set n (if cells[n].lock=k then { cells[n] with lock:=-1 } else cells[n]):=by
 unfold freeTo
 rw [List.set_append_right _ _ (by simp [freed];omega),show n-(freed (cells.take n) k).length=0 by simp [freed];omega,List.drop_eq_getElem_cons h,List.set_cons_zero,List.take_succ_eq_append_getElem h]
 unfold freed
 rw [List.map_append,List.append_assoc]
 rfl
theorem freeTo_skip (cells:List Cell)(k:Int)(n:Nat)(h:n<cells.length)(hl:cells[n].lock≠k):freeTo cells k (n+1)=freeTo cells k n:=by
 have h2:n<(freeTo cells k n).length:=by rw [freeTo_len _ _ _ (Nat.le_of_lt h)];exact h
 rw [freeTo_next _ _ _ h,if_neg hl,← freeTo_at cells k n h h2,List.set_getElem_self]
section
variable {m:Mc}{R:Nat→Role}{w:World}{vc vt vl:Value}{s:Sys}{ts:List TV}{es:List EV}
theorem MachO.cellAt (h:MachO m R w vc vt vl s ts es){i:Nat}(hi:i<s.cells.length):∃ gc cap,vc=.slice (some ⟨gc,0,none⟩) s.cells.length cap∧R gc=.cells∧m.base≤gc∧gc<w.heap.size∧gc≠m.g ∧
  w.cell? ⟨gc,i*3,none⟩=some (.int .i64 s.cells[i].num)∧w.cell? ⟨gc,i*3+1,none⟩=some (.int .i64 s.cells[i].time)∧w.cell? ⟨gc,i*3+2,none⟩=some (.int .i64 s.cells[i].lock)∧∀ q,w.frozen? ⟨gc,q,none⟩=false:=by
 obtain⟨gc,cap,rfl,h1,h2,_,_⟩:=Own.place h.sys.c (by omega)
 have hR:=h.sys.Rc gc rfl
 obtain⟨c0,c1,c2,hf⟩:=own_cellAt h.sys.c rfl hi
 exact⟨gc,cap,rfl,hR,h1,h2,(fun e=>by rw [e,h.run] at hR;cases hR),c0,c1,c2,hf⟩
theorem MachO.cmax (h:MachO m R w vc vt vl s ts es):∃ A c,vc=.slice A s.cells.length c∧s.cells.length≤9223372036854775807:=by
 obtain⟨A,c,e,_⟩:=Own.slice h.sys.c
 exact⟨A,c,e,Own.maxLen h.sys.c⟩
theorem MachO.lock {gc cap n:Nat}(h:MachO m R w (.slice (some ⟨gc,0,none⟩) n cap) vt vl s ts es){i:Nat}(hi:i<s.cells.length)(u:Int):MachO m R (w.setCell ⟨gc,i*3+2,none⟩ (.int .i64 u)) (.slice (some ⟨gc,0,none⟩) n cap) vt vl { s with cells:=s.cells.set i { s.cells[i] with lock:=u } } ts es:=by
 refine h.cs (Keep.setCell (T:=fun k=>Value.ownBlock (.slice (some ⟨gc,0,none⟩) n cap)=some k) (p:=⟨gc,i*3+2,none⟩) (Keep.refl _ w) (fun _=>rfl) _) ?_
 have hn:n=s.cells.length:=by obtain⟨A,c,e,_⟩:=Own.slice h.sys.c;injection e
 refine OwnF.putCell (c:=s.cells[i]) ?_ hn hi 2 (by omega) _ _ rfl
 rw [set_selfC];exact h.sys.c
end
theorem free_calls (m:Mc)(s:Sys)(vt:Value)(w:World)(k:Nat)(h:Mach m s vt w) :
  Calls Tryz.prog 174 #[.pointer (some ⟨m.g,0,none⟩),.int .i64 k] w (Steps m { s with cells:=freed s.cells k } vt):=by
 have HM:=Lib.hid h
 have hcl:s.cells.length≤9223372036854775807:=by obtain⟨R,vc,vl,ts,es,H⟩:=h;exact Own.maxLen H.sys.c
 go_enter Tryz.func174,Tryz.ntmps174
 go_wp2
 go_loopw [4] (fun i wr=>∃ n:Nat,n≤s.cells.length∧i=.int .i64 n∧Mach m { s with cells:=freeTo s.cells k n } vt wr) (fun i _=>s.cells.length-(intOf i).toNat)
 case atStart=>exact⟨0,Nat.zero_le _,rfl,HM.out⟩
 case round =>
  obtain⟨n,hn,rfl,hr⟩:=hrel
  obtain⟨R,vc,vl,ts,es,H⟩:=hr
  obtain⟨g0,g1,g2,g3,g4,g5⟩:=H.cells
  have hfl:=freeTo_len s.cells k n hn
  by_cases hlt:n<s.cells.length
  ·obtain⟨gc,cap,rfl,hRc,hbc,hlc,hne,c0,c1,c2,hfz⟩:=H.cellAt (i:=n) (by simp only [hfl];exact hlt)
   simp only [hfl] at g2
   have hat:(freeTo s.cells k n)[n]'(by rw [hfl];exact hlt)=s.cells[n]:=freeTo_at _ _ _ hlt _
   simp only [hat] at c0 c1 c2
   have x1:(n:Int)<s.cells.length:=by omega
   have x3:(0:Int)≤n:=by omega
   have HH:Hid (∃ h:(freeTo s.cells k n).length=s.cells.length,(freeTo s.cells k n)[n]'(by rw [h];exact hlt)=s.cells[n]):=Lib.hid ⟨hfl,hat⟩
   clear hat hfl
   by_cases hk:s.cells[n].lock=k
   ·have b1:(s.cells[n].lock == (k:Int))=true:=by simp [hk]
    have HK:=Lib.hid hk
    clear hk
    go_wp2
    go_roundw
    case rel =>
     refine⟨n+1,by omega,by go_num,?_⟩
     rw [freeTo_next _ _ _ hlt,if_pos HK.out]
     obtain⟨hfl,hat⟩:=HH.out
     have:=H.lock (i:=n) (by simp only [hfl];exact hlt) (-1)
     simp only [hat,hfl] at this
     exact this.mach
    case measure=>simp [intOf];omega
   ·have b1:(s.cells[n].lock == (k:Int))=false:=by simp [hk]
    have HK:=Lib.hid hk
    clear hk
    go_wp2
    go_roundw
    case rel=>exact⟨n+1,by omega,by go_num,by rw [freeTo_skip _ _ _ hlt HK.out];exact H.mach⟩
    case measure=>simp [intOf];omega
  ·obtain rfl:n=s.cells.length:=by omega
   obtain⟨A,c,rfl,_⟩:=H.cmax
   simp only [hfl] at g2
   have HE:=Lib.hid (freeTo_all s.cells k)
   clear hfl
   go_wp2
   go_end0
   exact⟨rfl,by rw [← HE.out];exact H.mach⟩
end Go.Proofs.YtjacjafmimgfcaaGreat
namespace Go.Proofs.YtjacjafmimgfcaaGreat
open Go.RowKit
attribute [local go_sem ↓] Go.wp_at_zero Go.wp_at_succ
theorem blind_calls (m:Mc)(s:Sys)(vt:Value)(w:World)(k:Nat)(c:Int)(h:Mach m s vt w)(hk:k<s.tasks.length)(h0:0≤c)(h1:c<s.cells.length) :
  Calls Tryz.prog 173 #[.pointer (some ⟨m.g,0,none⟩),.int .i64 k,.int .i64 c] w fun e w'=>e=.returned (.bool (blind s k c))∧Below w.heap.size w w':=by
 obtain⟨R,vc,vl,ts,es,H⟩:=h
 obtain⟨i,rfl⟩:=Int.eq_ofNat_of_zero_le h0
 have hi:i<s.cells.length:=by omega
 obtain⟨gt,cap,x,rfl,hcap,hRt,hbt,hlt,hne,hx,hxt,hat,hfz⟩:=H.task hk
 obtain⟨gc,capc,rfl,hRc,hbc,hlc,hnec,d0,d1,d2,hfzc⟩:=H.cellAt hi
 obtain⟨g0,g1,g2,g3,g4,g5⟩:=H.cells
 have hmax:=H.max
 have hcm:=H.cmax
 have hgl:=H.gl
 have c7:=hat.c7
 have x1:(k:Int)<s.tasks.length:=by omega
 have x3:(0:Int)≤k:=by omega
 have y1:(i:Int)<s.cells.length:=by omega
 have y3:(0:Int)≤i:=by omega
 have hcl:s.cells.length≤9223372036854775807:=by obtain⟨A,c,_,h⟩:=hcm;exact h
 have hb:=fun o=>alB w o
 have hbl:blind s k (i:Int)=(decide (0≤s.cells[i].lock) && decide (s.cells[i].lock≠k) || decide ((s.t k).since<s.cells[i].time)):=by unfold blind;rw [sys_c hi]
 have HB:=Lib.hid hbl
 clear hbl hcm
 by_cases e1:0≤s.cells[i].lock
 ·have a1:decide (s.cells[i].lock ≥ 0)=true:=by simpa using e1
  by_cases e2:s.cells[i].lock=k
  ·have a2:(s.cells[i].lock != (k:Int))=false:=by simp [e2]
   have E2:=Lib.hid e2
   clear e2
   by_cases e3:(s.t k).since<s.cells[i].time
   ·have a3:decide (s.cells[i].time > (s.t k).since)=true:=by simpa using e3
    go_enter Tryz.func173,Tryz.ntmps173
    go_wp2
    go_quiet (fail)
    go_wp2
    go_ret
    exact⟨ret_bool (by rw [HB.out];simp [e3]),by repeat' (first | exact hb _ | apply below_drewN1)⟩
   ·have a3:decide (s.cells[i].time > (s.t k).since)=false:=by simpa using e3
    go_enter Tryz.func173,Tryz.ntmps173
    go_wp2
    go_quiet (fail)
    go_wp2
    go_ret
    exact⟨ret_bool (by rw [HB.out];simp [e3,E2.out]),by repeat' (first | exact hb _ | apply below_drewN1)⟩
  ·have a2:(s.cells[i].lock != (k:Int))=true:=bne_iff_ne.2 e2
   go_enter Tryz.func173,Tryz.ntmps173
   go_wp2
   go_quiet (fail)
   go_wp2
   go_ret
   exact⟨ret_bool (by rw [HB.out];simp [e1,e2]),by repeat' (first | exact hb _ | apply below_drewN1)⟩
 ·have a1:decide (s.cells[i].lock ≥ 0)=false:=by simpa using e1
  by_cases e3:(s.t k).since<s.cells[i].time
  ·have a3:decide (s.cells[i].time > (s.t k).since)=true:=by simpa using e3
   go_enter Tryz.func173,Tryz.ntmps173
   go_wp2
   go_quiet (fail)
   go_wp2
   go_ret
   exact⟨ret_bool (by rw [HB.out];simp [e3]),by repeat' (first | exact hb _ | apply below_drewN1)⟩
  ·have a3:decide (s.cells[i].time > (s.t k).since)=false:=by simpa using e3
   have E1:=Lib.hid e1
   have E3:=Lib.hid e3
   go_enter Tryz.func173,Tryz.ntmps173
   go_wp2
   go_quiet (fail)
   go_wp2
   go_ret
   exact⟨ret_bool (by rw [HB.out,show decide (0≤s.cells[i].lock)=false from decide_eq_false (by have:=E1.out;omega),show decide ((s.t k).since<s.cells[i].time)=false from decide_eq_false (by have:=E3.out;omega)];rfl),by repeat' (first | exact hb _ | apply below_drewN1)⟩
theorem again_calls (m:Mc)(s:Sys)(vt:Value)(w:World)(k:Nat)(h:Mach m s vt w)(hk:k<s.tasks.length)(hold:(s.t k).old.length≤1000000) :
  Calls Tryz.prog 169 #[.pointer (some ⟨m.g,0,none⟩),.int .i64 k] w (Steps m (againS s k) vt):=by
 have HM:=Lib.hid h
 have hvt:∃ gt cap,vt=.slice (some ⟨gt,0,none⟩) s.tasks.length cap∧gt≠m.g:=by
  obtain⟨R,vc,vl,ts,es,H⟩:=h
  obtain⟨gt,cap,x,rfl,hcap,hRt,hbt,hlt,hne,hx,hxt,hat,hfz⟩:=H.task hk
  exact⟨gt,cap,rfl,hne⟩
 obtain⟨gt,cap,rfl,hne⟩:=hvt
 clear h
 go_enter Tryz.func169,Tryz.ntmps169
 go_wp2_with (go_at_call 174;refine(free_calls m s _ w k HM.out).mono ?_;rintro e w1 ⟨rfl,R,vc,vl,ts,es,H⟩)
 obtain⟨gt',cap',Ar,cr,Ao,co,Ad,cd,Au,cu,hvt,hx,hr,ho,hd,hu⟩:=H.at_ (j:=k) hk
 injection hvt with hv1 hv2 hv3
 injection hv1 with hv1
 injection hv1 with hv1
 subst hv1
 clear hv2 hv3
 have hx:ts[k]?=some ⟨s.t k,.slice Ar (s.t k).regs.length cr,.slice Ao (s.t k).old.length co,.slice Ad (s.t k).reads.length cd,.slice Au (s.t k).puts.length cu⟩:=hx
 have ho:Row Kd.int w1 (fun j=>(Value.slice Ao (s.t k).old.length co).ownBlock=some j) Ao (s.t k).old:=ho
 obtain⟨_,hlt,hgl,_,g3,_,_,hat,hfz,_⟩:=H.see hx
 have hmax:s.tasks.length≤9223372036854775807:=H.max
 have c8:=hat.c8
 have c3:=hat.c3
 have x1:(k:Int)<s.tasks.length:=by omega
 have x3:(0:Int)≤k:=by omega
 have HX:=Lib.hid hx
 clear hat hr hd hu
 go_region_held3 (fun w'=>w'.cell? ⟨m.g,3,none⟩=some (.slice (some ⟨gt,0,none⟩) s.tasks.length cap)∧w'.cell? ⟨gt,k*13+8,none⟩=some (.slice Ao (s.t k).old.length co))
  (first | (go_keep;done) | (go_split_ands;first | exact⟨q1,q2⟩ | exact⟨cell_far q1 hne,cell_off q2 (by omega)⟩))
  ((refine step_clone_kd (d:=Kd.int) w1.drew rfl (by rfl) _ _ _ (by rfl) Tryz.underlying22 _ 8 infoInt rfl (by decide) (by decide) (by rfl) Ao co (by rfl) (ho.belowAll (Below.refl _ _).drew) (by omega) ?_;intro vr w2 hoc hbc;obtain⟨An,cn,rfl,hcn⟩:=Own.slice hoc;have q1:=(hbc.cell (p:=⟨m.g,3,none⟩) hgl).trans g3;have q2:=(hbc.cell (p:=⟨gt,k*13+8,none⟩) hlt).trans c8;have q3:=(hbc.cell (p:=⟨gt,k*13+3,none⟩) hlt).trans c3;have q4:=(hbc.frozen (p:=⟨gt,k*13+3,none⟩) hlt).trans (hfz _)))
 obtain⟨R1,H1⟩:=H.rowR hx (Keep.of_belowAll _ (below_then ((Below.refl _ w1).drew) (Nat.le_refl _) hbc)) ((OwnF.of plain_int hoc).lower H.bl) (fun k e=>.inr (H.fresh (hoc.blk k e).1))
 obtain⟨WA,HWA⟩:∃ WA,WA=w2.setCell ⟨gt,k*13+3,none⟩ (.slice An (s.t k).old.length cn):=⟨_,rfl⟩
 rw [← HWA] at H1 ⊢
 clear HWA
 have hx1:=ts_set (y:=⟨{ s.t k with regs:=(s.t k).old },.slice An (s.t k).old.length cn,.slice Ao (s.t k).old.length co,.slice Ad (s.t k).reads.length cd,.slice Au (s.t k).puts.length cu⟩) hx
 obtain⟨hne1,hlt1,hgl1,_,p3,_,_,hat1,hfz1,_⟩:=H1.see hx1
 obtain⟨R2,H2⟩:=H1.rowD hx1 (Keep.of_belowAll _ (alB WA (.cells #[] 127))) (ownF_empty kPut plain_put 127 WA m.base H1.bl) (fun k e=>.inr (H1.fresh (by simp [Value.ownBlock] at e;omega)))
 obtain⟨R3,H3⟩:=H2.rowU (ts_set hx1) (Keep.of_belowAll _ (alB _ (.cells #[] 127))) (ownF_empty kPut plain_put 127 _ m.base H2.bl) (fun k e=>.inr (H2.fresh (by simp [Value.ownBlock] at e;simp;omega)))
 have H4:=H3.int (ts_set (ts_set hx1)) 11 (by omega) 0 { s.t k with regs:=(s.t k).old,reads:=[],puts:=[],whn:=0 } rfl rfl rfl rfl rfl
 have d9:=hat1.c9
 have d10:=hat1.c10
 have d11:=hat1.c11
 simp only [setT_setT] at H4
 have H5:=H4.mach
 clear H H1 H2 H3 H4 ho hoc hat1 g3 c8 c3 q1 q2 q3 q4
 have z1:gt<WA.heap.size+1:=by omega
 simp only [World.size_setCell,World.size_alloc,set_al,hlt1,z1] at H5
 have HH5:=Lib.hid H5
 clear H5 z1
 go_wp2_with (go_at_call 166;refine(stage_calls m _ _ _ k 0 HH5.out (by rw [setT_n];exact hk)).mono ?_;rintro e w9 ⟨rfl,H9⟩)
 go_end0
 refine⟨rfl,?_⟩
 rw [setT_setT,setT_t (by exact hk)] at H9
 exact H9
end Go.Proofs.YtjacjafmimgfcaaGreat
