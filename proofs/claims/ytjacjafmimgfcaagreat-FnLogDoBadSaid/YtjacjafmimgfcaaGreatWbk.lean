/- Cells have all these numbers: both programs' words; two rows are the same.; Cells get numbers: the reference's word.; The deeds of a change that was ended: the reference's word.; The reference's LogDo: what it answers; a system that is not in order.; The deeds of a change that was ended: the program's word.; Cells get numbers in place: the program's word. -/
import Derived.Test.YtjacjafmimgfcaaGreatWac
import Derived.Test.YtjacjafmimgfcaaGreatWag
import Derived.Test.YtjacjafmimgfcaaGreatWas
import Derived.Test.YtjacjafmimgfcaaGreatWaz
import Derived.Test.YtjacjafmimgfcaaGreatWbg
import Derived.Test.YtjacjafmimgfcaaGreatWbh
set_option maxHeartbeats 4000000
set_option maxRecDepth 100000
set_option linter.unusedVariables false
set_option linter.unusedSimpArgs false
namespace Go.Proofs.YtjacjafmimgfcaaGreat
open Go.RowKit
def hasAt (cells:List Int) (x:Put):Bool:=inR x.cell 0 ((cells.length:Int)-1) && decide (rdI cells x.cell=x.num)
theorem hasAll_calls (cells:List Int)(l:List Put)(A B:Option Addr)(ca cb:Nat)(w:World)(S T:Nat→Prop)(hc:Row Kd.int w T A cells)(hr:Row kPut w S B l) :
  Calls Tryz.prog 49 #[.slice A cells.length ca,.slice B l.length cb] w fun e w'=>e=.returned (.bool (hasAll cells l))∧Below w.heap.size w w':=by
 have hm:=hr.1
 have hmc:=hc.1
 go_enter Tryz.func49,Tryz.ntmps49
 go_wp2
 go_loopw [6,9] (fun _ i wr=>∃ k:Nat,k≤l.length∧i=.int .i64 k∧Hid ((l.take k).all (hasAt cells)=true)∧Below w.heap.size w wr) (fun _ i _=>l.length-(intOf i).toNat)
 case atStart=>exact⟨0,Nat.zero_le _,rfl,by simp [Hid],Below.refl _ _⟩
 case round =>
  obtain⟨k,hk,rfl,HA,hbr⟩:=hrel
  by_cases hlt:k<l.length
  ·obtain⟨ad,rfl,hl,c0,c1⟩:=at_put (hr.belowAll hbr) hlt
   have x1:(k:Int)<l.length:=by omega
   have x3:(0:Int)≤k:=by omega
   have hbad:hasAt cells l[k]=false→hasAll cells l=false:=fun h=>all_false_of _ _ k hlt h
   have hbr1:=fun o=>below_then hbr hbr.size (alB wr o)
   cases e1:inR l[k].cell 0 ((cells.length:Int)-1) with
   | false =>
    have hc1:=fun o=>isPlace_drew _ _ (by omega) _ e1 (wr.alloc o)
    have HB:=Lib.hid (hbad (by unfold hasAt;rw [e1];rfl))
    clear e1 hbad
    go_wp2
    go_quiet (first | (go_at_call 89;with_reducible refine Calls.quiet_of_same (hc1 _ _)))
    go_wp2
    go_ret
    exact⟨ret_bool HB.out.symm,by repeat' (first | exact hbr1 _ | apply below_drewN1)⟩
   | true =>
    have hc1:=fun o=>isPlace_drew _ _ (by omega) _ e1 (wr.alloc o)
    have hrg:0≤l[k].cell∧l[k].cell≤(cells.length:Int)-1:=by simpa [inR] using e1
    obtain⟨z,hz⟩:∃ z:Nat,l[k].cell=(z:Int):=⟨l[k].cell.toNat,by omega⟩
    have hzl:z<cells.length:=by omega
    obtain⟨ac,rfl,hlc,hcc,hic⟩:=at_int (hc.belowAll hbr) hzl
    have hlb:(ac.add z).block<wr.heap.size:=by rw [block_add];exact hlc
    have hrd:rdI cells l[k].cell=cells[z]:=by unfold rdI;rw [hz,Int.toNat_natCast];exact getD_at _ _ _ hzl
    have d0:=fun o=>((alB wr o).cell (p:=ac.add z) hlb).trans hcc
    have d0':∀ o,(wr.alloc o).cell? (ac.add l[k].cell.toNat)=some (.int .i64 cells[z]):=by rw [hz,Int.toNat_natCast];exact d0
    have y1:l[k].cell<cells.length:=by omega
    have y2:(0:Int)≤l[k].cell:=by omega
    have hat:hasAt cells l[k]=decide (cells[z]=l[k].num):=by unfold hasAt;rw [e1,hrd];rfl
    have HAT:=Lib.hid hat
    clear hz hrd hat d0 hcc hrg e1
    by_cases e3:cells[z]=l[k].num
    ·have b3:(cells[z] == l[k].num)=true:=by simp [e3]
     have b4:(cells[z] != l[k].num)=false:=by simp [e3]
     have HG:=Lib.hid (show hasAt cells l[k]=true by rw [HAT.out];exact decide_eq_true e3)
     clear e3 hbad
     go_wp2
     go_quiet (first | (go_at_call 89;with_reducible refine Calls.quiet_of_same (hc1 _ _)))
     go_wp2
     go_roundw
     case rel=>exact⟨k+1,by omega,by go_num,by unfold Hid;rw [all_take_snoc _ _ _ hlt,HA.out,HG.out];rfl,by repeat' (first | exact hbr1 _ | apply below_drewN1)⟩
     case measure=>simp [intOf];omega
    ·have b4:(cells[z] != l[k].num)=true:=bne_iff_ne.2 e3
     have HB:=Lib.hid (hbad (by rw [HAT.out];exact decide_eq_false e3))
     clear e3 hbad
     go_wp2
     go_quiet (first | (go_at_call 89;with_reducible refine Calls.quiet_of_same (hc1 _ _)))
     go_wp2
     go_ret
     exact⟨ret_bool HB.out.symm,by repeat' (first | exact hbr1 _ | apply below_drewN1)⟩
  ·have HB:Hid (hasAll cells l=true):=Lib.hid (by have:=HA.out;rw [show k=l.length by omega,List.take_length] at this;exact this)
   go_wp2
   go_ret
   exact⟨ret_bool HB.out.symm,hbr⟩
theorem l13Has_calls (cells:List Int)(l:List Put)(A B:Option Addr)(ca cb:Nat)(w:World)(S T:Nat→Prop)(hc:Row Kd.int w T A cells)(hr:Row kPut w S B l) :
  Calls Tryz.prog 38 #[.slice A cells.length ca,.slice B l.length cb] w fun e w'=>e=.returned (.bool (hasAll cells l))∧Below w.heap.size w w':=by
 have hm:=hr.1
 have hmc:=hc.1
 have hw1:IntKind.i64.wrap ((cells.length:Int)-1)=(cells.length:Int)-1:=IntWalk.i64_in _ (by omega)
 go_enter Tryz.func38,Tryz.ntmps38
 go_wp2
 go_loopw [5] (fun i wr=>∃ k:Nat,k≤l.length∧i=.int .i64 k∧Hid ((l.take k).all (hasAt cells)=true)∧Below w.heap.size w wr) (fun i _=>l.length-(intOf i).toNat)
 case atStart=>exact⟨0,Nat.zero_le _,rfl,by simp [Hid],Below.refl _ _⟩
 case round =>
  obtain⟨k,hk,rfl,HA,hbr⟩:=hrel
  by_cases hlt:k<l.length
  ·obtain⟨ad,rfl,hl,c0,c1⟩:=at_put (hr.belowAll hbr) hlt
   have x1:(k:Int)<l.length:=by omega
   have x3:(0:Int)≤k:=by omega
   have hbad:hasAt cells l[k]=false→hasAll cells l=false:=fun h=>all_false_of _ _ k hlt h
   cases e1:inR l[k].cell 0 ((cells.length:Int)-1) with
   | false =>
    have hc1:=l6In_drew _ _ _ _ e1 wr
    have HB:=Lib.hid (hbad (by unfold hasAt;rw [e1];rfl))
    clear e1 hbad
    go_wp2
    go_quiet (first | (go_at_call 67;with_reducible refine Calls.quiet_of_same (hc1 _)))
    go_wp2
    go_ret
    exact⟨ret_bool HB.out.symm,by repeat' (first | exact hbr | apply below_drewN1)⟩
   | true =>
    have hc1:=l6In_drew _ _ _ _ e1 wr
    have hrg:0≤l[k].cell∧l[k].cell≤(cells.length:Int)-1:=by simpa [inR] using e1
    obtain⟨z,hz⟩:∃ z:Nat,l[k].cell=(z:Int):=⟨l[k].cell.toNat,by omega⟩
    have hzl:z<cells.length:=by omega
    obtain⟨ac,rfl,hlc,hcc,hic⟩:=at_int (hc.belowAll hbr) hzl
    have hrd:rdI cells l[k].cell=cells[z]:=by unfold rdI;rw [hz,Int.toNat_natCast];exact getD_at _ _ _ hzl
    have d0':wr.cell? (ac.add l[k].cell.toNat)=some (.int .i64 cells[z]):=by rw [hz,Int.toNat_natCast];exact hcc
    have y1:l[k].cell<cells.length:=by omega
    have y2:(0:Int)≤l[k].cell:=by omega
    have hat:hasAt cells l[k]=decide (cells[z]=l[k].num):=by unfold hasAt;rw [e1,hrd];rfl
    have HAT:=Lib.hid hat
    clear hz hrd hat hcc hrg e1
    by_cases e3:cells[z]=l[k].num
    ·have b4:(cells[z] != l[k].num)=false:=by simp [e3]
     have HG:=Lib.hid (show hasAt cells l[k]=true by rw [HAT.out];exact decide_eq_true e3)
     clear e3 hbad
     go_wp2
     go_quiet (first | (go_at_call 67;with_reducible refine Calls.quiet_of_same (hc1 _)))
     go_wp2
     go_roundw
     case rel=>exact⟨k+1,by omega,by go_num,by unfold Hid;rw [all_take_snoc _ _ _ hlt,HA.out,HG.out];rfl,by repeat' (first | exact hbr | apply below_drewN1)⟩
     case measure=>simp [intOf];omega
    ·have b4:(cells[z] != l[k].num)=true:=bne_iff_ne.2 e3
     have HB:=Lib.hid (hbad (by rw [HAT.out];exact decide_eq_false e3))
     clear e3 hbad
     go_wp2
     go_quiet (first | (go_at_call 67;with_reducible refine Calls.quiet_of_same (hc1 _)))
     go_wp2
     go_ret
     exact⟨ret_bool HB.out.symm,by repeat' (first | exact hbr | apply below_drewN1)⟩
  ·have HB:Hid (hasAll cells l=true):=Lib.hid (by have:=HA.out;rw [show k=l.length by omega,List.take_length] at this;exact this)
   go_wp2
   go_ret
   exact⟨ret_bool HB.out.symm,hbr⟩
theorem same_step (a b:List Int)(k:Nat)(ha:k<a.length)(hb:k<b.length)(h:a.take k=b.take k)(he:a[k]=b[k]):a.take (k+1)=b.take (k+1):=by
 rw [List.take_succ_eq_append_getElem ha,List.take_succ_eq_append_getElem hb,h,he]
theorem l23Same_calls (a b:List Int)(A B:Option Addr)(ca cb:Nat)(w:World)(S T:Nat→Prop)(ha:Row Kd.int w T A a)(hb:Row Kd.int w S B b) :
  Calls Tryz.prog 39 #[.slice A a.length ca,.slice B b.length cb] w fun e w'=>e=.returned (.bool (decide (a=b)))∧Below w.heap.size w w':=by
 have hma:=ha.1
 have hmb:=hb.1
 by_cases hn:a.length=b.length
 rotate_left
 ·have b1:((a.length:Int) != b.length)=true:=bne_iff_ne.2 (by omega)
  have HB:=Lib.hid (show decide (a=b)=false from decide_eq_false (fun h=>hn (by rw [h])))
  clear hn
  go_enter Tryz.func39,Tryz.ntmps39
  go_wp2
  go_ret
  exact⟨ret_bool HB.out.symm,Below.refl _ _⟩
 have b1:((a.length:Int) != b.length)=false:=by simp [hn]
 have HN:=Lib.hid hn
 clear hn
 go_enter Tryz.func39,Tryz.ntmps39
 go_wp2
 go_loopw [5] (fun i wr=>∃ k:Nat,k≤a.length∧i=.int .i64 k∧Hid (a.take k=b.take k)∧Below w.heap.size w wr) (fun i _=>a.length-(intOf i).toNat)
 case atStart=>exact⟨0,Nat.zero_le _,rfl,by simp [Hid],Below.refl _ _⟩
 case round =>
  obtain⟨k,hk,rfl,HA,hbr⟩:=hrel
  by_cases hlt:k<a.length
  ·have hlt2:k<b.length:=by have:=HN.out;omega
   obtain⟨ad,rfl,hl,c0,_⟩:=at_int (ha.belowAll hbr) hlt
   obtain⟨bd,rfl,hl2,c1,_⟩:=at_int (hb.belowAll hbr) hlt2
   have x1:(k:Int)<a.length:=by omega
   have x2:(k:Int)<b.length:=by omega
   have x3:(0:Int)≤k:=by omega
   by_cases e3:a[k]=b[k]
   ·have b4:(a[k] != b[k])=false:=by simp [e3]
    have HE:=Lib.hid e3
    clear e3
    go_wp2
    go_quiet (fail)
    go_wp2
    go_roundw
    case rel=>exact⟨k+1,by omega,by go_num,same_step a b k hlt hlt2 HA.out HE.out,by repeat' (first | exact hbr | apply below_drewN1)⟩
    case measure=>simp [intOf];omega
   ·have b4:(a[k] != b[k])=true:=bne_iff_ne.2 e3
    have HE:=Lib.hid e3
    clear e3
    go_wp2
    go_quiet (fail)
    go_wp2
    go_ret
    exact⟨ret_bool (decide_eq_false (fun h=>HE.out (by subst h;rfl))).symm,by repeat' (first | exact hbr | apply below_drewN1)⟩
  ·have HB:Hid (a=b):=Lib.hid (by have:=HA.out;have h1:=HN.out;rwa [show k=a.length by omega,List.take_length,h1,List.take_length] at this)
   go_wp2
   go_ret
   exact⟨ret_bool (decide_eq_true HB.out).symm,hbr⟩
end Go.Proofs.YtjacjafmimgfcaaGreat
namespace Go.Proofs.YtjacjafmimgfcaaGreat
open Go.RowKit
theorem put1_in (c:List Int)(x:Put)(h:inR x.cell 0 ((c.length:Int)-1)=true):put1 c x=c.set x.cell.toNat x.num:=by unfold put1;rw [if_pos h]
theorem put1_out (c:List Int)(x:Put)(h:inR x.cell 0 ((c.length:Int)-1)=false):put1 c x=c:=by unfold put1;rw [if_neg (by rw [h];simp)]
theorem l13Puts_calls (cells:List Int)(l:List Put)(A B:Option Addr)(ca cb:Nat)(w:World)(S T:Nat→Prop)(hc:Row Kd.int w T A cells)(hr:Row kPut w S B l)(hi:∀ x ∈ l,isI x.num)(hcl:cells.length≤1000) :
  Calls Tryz.prog 40 #[.slice A cells.length ca,.slice B l.length cb] w fun e w'=>∃ v,e=.returned v∧OwnI 3 w' w.heap.size v (putAll cells l)∧Below w.heap.size w w':=by
 have hm:=hr.1
 have hmc:=hc.1
 have hw1:IntKind.i64.wrap ((cells.length:Int)-1)=(cells.length:Int)-1:=IntWalk.i64_in _ (by omega)
 go_enter Tryz.func40,Tryz.ntmps40
 go_wp2_with (first | (at_builtin;refine wpList_clone_kd (d:=Kd.int) rfl (.tmp 7) (.tmp 8) _ rfl Tryz.underlying22 _ 8 infoInt rfl (by decide) (by decide) rfl A ca rfl hc (by omega) ?_;intro vc w2 hoc hbc))
 have HC0:OwnI 3 w2 w.heap.size vc cells:=OwnI.of hoc
 obtain⟨Ac,cc,hvc,hcc,_⟩:=HC0.row
 have hgc:0<cells.length→∃ g,Ac=some ⟨g,0,none⟩∧w.heap.size≤g:=by
  intro h0
  obtain⟨g,c,h1,h2,h3⟩:=HC0.place h0
  rw [hvc] at h1
  injection h1 with h1
  exact⟨g,h1,h2⟩
 subst hvc
 clear hoc
 go_loopw [6] (fun i wr=>∃ k:Nat,k≤l.length∧i=.int .i64 k∧OwnI 3 wr w.heap.size (.slice Ac cells.length cc) (putAll cells (l.take k))∧Below w.heap.size w wr) (fun i _=>l.length-(intOf i).toNat)
 case atStart=>exact⟨0,Nat.zero_le _,rfl,HC0,hbc⟩
 case round =>
  obtain⟨k,hk,rfl,HC,hbr⟩:=hrel
  by_cases hlt:k<l.length
  ·obtain⟨ad,rfl,hl,c0,c1⟩:=at_put (hr.belowAll hbr) hlt
   have x1:(k:Int)<l.length:=by omega
   have x3:(0:Int)≤k:=by omega
   have hpl:(putAll cells (l.take k)).length=cells.length:=putAll_len _ _
   have hnext:=putAll_snoc cells l k hlt
   have HNX:=Lib.hid hnext
   have HPL:=Lib.hid hpl
   have hnum:=hi _ (List.getElem_mem hlt)
   clear hnext hpl
   cases e1:inR l[k].cell 0 ((cells.length:Int)-1) with
   | false =>
    have E1:=Lib.hid e1
    clear e1
    go_wp2_with (go_at_call 67;refine(l6In_calls _ _ _ _).mono ?_;rintro e w' ⟨rfl,rfl⟩;rw [E1.out])
    go_roundw
    case rel=>exact⟨k+1,by omega,by go_num,by rw [HNX.out,put1_out _ _ (by rw [HPL.out];exact E1.out)];exact HC,hbr⟩
    case measure=>simp [intOf];omega
   | true =>
    have hrg:0≤l[k].cell∧l[k].cell≤(cells.length:Int)-1:=by simpa [inR] using e1
    have E1:=Lib.hid e1
    obtain⟨z,hz⟩:∃ z:Nat,l[k].cell=(z:Int):=⟨l[k].cell.toNat,by omega⟩
    have hzl:z<cells.length:=by omega
    obtain⟨gc,rfl,hge⟩:=hgc (by omega)
    have hc2':=HC
    rw [← HPL.out] at hc2'
    obtain⟨hcy,hfy⟩:=hc2'.cell (j:=z) (by rw [HPL.out];exact hzl)
    have hzt:l[k].cell.toNat=z:=by rw [hz,Int.toNat_natCast]
    have HZ:=Lib.hid hzt
    have y1:(z:Int)<cells.length:=by omega
    have y2:(0:Int)≤z:=by omega
    rw [hz] at c0
    have HZ2:=Lib.hid hz
    have b1:Hid (inR (z:Int) 0 ((cells.length:Int)-1)=true):=by unfold Hid;rw [← hz];exact e1
    clear hz hrg e1 hzt hc2'
    go_wp2_with (go_at_call 67;refine(l6In_calls _ _ _ _).mono ?_;rintro e w' ⟨rfl,rfl⟩;rw [b1.out])
    go_still_tail 12,(by kernel_rfl)
    go_wp2
    go_roundw
    case rel =>
     refine⟨k+1,by omega,by go_num,?_,(below_drewN' hbr _).setCell hge _⟩
     have h3:=HC.drewN 1
     rw [← HPL.out] at h3 ⊢
     rw [HNX.out,put1_in _ _ (by rw [HPL.out];exact E1.out),HZ.out]
     exact h3.set_ (by rw [HPL.out];exact hzl) _ hnum
    case measure=>simp [intOf];omega
  ·have HB:Hid (putAll cells (l.take k)=putAll cells l):=Lib.hid (by rw [show k=l.length by omega,List.take_length])
   go_wp2
   go_ret
   exact⟨_,rfl,by rw [← HB.out];exact HC,hbr⟩
end Go.Proofs.YtjacjafmimgfcaaGreat
namespace Go.Proofs.YtjacjafmimgfcaaGreat
open Go.RowKit
def ResDeeds (r:Option (List Deed)) (w:World) (S:Nat→Prop) (e:Ending):Prop :=
 match r with
 | none=>∃ v,e=.returned (.tuple #[v,.bool false])
 | some ds=>∃ D c,e=.returned (.tuple #[.slice D ds.length c,.bool true])∧Row kDeed w S D ds
theorem l23Deeds_calls (p:Prog)(s:Sys)(x:Entry)(P Q A B C D U:Option Addr)(cp cq ca cb cc cd cu:Nat)(w:World)(S:Nat→Prop)(hQ:Row (Kd.slice kAct) w S Q p.bodies)(hT:Row kTask w S B s.tasks)(hbody:∀ k,k<s.tasks.length→0≤(s.t k).body∧(s.t k).body<p.bodies.length) :
  Calls Tryz.prog 36 #[.agg #[.slice P p.cells.length cp,.slice Q p.bodies.length cq],.agg #[.slice A s.cells.length ca,.slice B s.tasks.length cb,.int .i64 s.clock,.slice C s.log.length cc],.agg #[.int .i64 x.task,.int .i64 x.act,.int .i64 x.whn,.slice D x.reads.length cd,.slice U x.puts.length cu,.int .i64 x.frm]] w fun e w'=>ResDeeds (entryDeeds p s x) w S e∧Below w.heap.size w w':=by
 have hmt:=hT.1
 have hmq:=hQ.1
 have hb3:=fun o1 o2 o3=>alB3 w o1 o2 o3
 have hw1:IntKind.i64.wrap ((s.tasks.length:Int)-1)=(s.tasks.length:Int)-1:=IntWalk.i64_in _ (by omega)
 have tok1:True:=trivial
 cases e1:inR x.task 0 ((s.tasks.length:Int)-1) with
 | false =>
  have HR:Hid (entryDeeds p s x=none):=Lib.hid (by unfold entryDeeds;rw [if_neg (by rw [e1];simp)])
  have E1:=Lib.hid e1
  clear e1
  go_enter Tryz.func36,Tryz.ntmps36
  go_wp2_with (go_at_call 67;refine(l6In_calls _ _ _ _).mono ?_;rintro e w' ⟨rfl,rfl⟩;rw [E1.out])
  go_ret2
  exact⟨by rw [HR.out];exact⟨_,rfl⟩,(hb3 _ _ _).alloc (by simp;omega) _⟩
 | true =>
  have hrg:0≤x.task∧x.task≤(s.tasks.length:Int)-1:=by simpa [inR] using e1
  have E1:=Lib.hid e1
  obtain⟨z,hz⟩:∃ z:Nat,x.task=(z:Int):=⟨x.task.toNat,by omega⟩
  have hzl:z<s.tasks.length:=by omega
  have hbz:=hbody z hzl
  rw [sys_t hzl] at hbz
  obtain⟨b,hbn⟩:∃ b:Nat,s.tasks[z].body=(b:Int):=⟨s.tasks[z].body.toNat,by omega⟩
  have hbl:b<p.bodies.length:=by omega
  obtain⟨ad,R,O,D',U',cr,co,cd',cu',rfl,hl,_,hat⟩:=at_task hT hzl
  have hlz:(ad.add (z*13)).block<w.heap.size:=by rw [block_add];exact hl
  have j0:=hat.c0
  rw [hbn] at j0
  have j0':∀ o1 o2 o3,(((w.alloc o1).alloc o2).alloc o3).cell? (ad.add (x.task.toNat*13))=some (.int .i64 (b:Nat)):=by rw [hz,Int.toNat_natCast];exact fun o1 o2 o3=>((hb3 o1 o2 o3).cell (p:=ad.add (z*13)) hlz).trans j0
  obtain⟨ae,E,ce,rfl,hle,hce,hcel,hE⟩:=at_slice hQ hbl
  have hlb:(ae.add b).block<w.heap.size:=by rw [block_add];exact hle
  have b0:=fun o1 o2 o3=>((hb3 o1 o2 o3).cell (p:=ae.add b) hlb).trans hce
  have hme:=hE.1
  have hacts:p.acts (s.t x.task.toNat).body=p.bodies[b]:=by rw [hz,Int.toNat_natCast,sys_t hzl,hbn];unfold Prog.acts;rw [Int.toNat_natCast];exact getD_at _ _ _ hbl
  have hed:entryDeeds p s x=if inR x.act 0 ((p.bodies[b].length:Int)-1) && decide ((p.bodies[b].getD x.act.toNat noAct).kind=1) then some (p.bodies[b].getD x.act.toNat noAct).deeds else none:=by unfold entryDeeds;rw [if_pos e1,hacts]
  have HED:=Lib.hid hed
  have y1:x.task<s.tasks.length:=by omega
  have y2:(0:Int)≤x.task:=by omega
  have y3:(b:Int)<p.bodies.length:=by omega
  have y4:(0:Int)≤b:=by omega
  have hw2:IntKind.i64.wrap ((p.bodies[b].length:Int)-1)=(p.bodies[b].length:Int)-1:=IntWalk.i64_in _ (by omega)
  clear hz hbn hacts hat hrg hbz j0 hce e1 hed
  cases e2:inR x.act 0 ((p.bodies[b].length:Int)-1) with
  | false =>
   have HR:Hid (entryDeeds p s x=none):=Lib.hid (by rw [HED.out,if_neg (by rw [e2];simp)])
   have E2:=Lib.hid e2
   clear e2
   go_enter Tryz.func36,Tryz.ntmps36
   go_wp2_with (go_at_call 67;refine(l6In_calls _ _ _ _).mono ?_;rintro e w' ⟨rfl,rfl⟩;rw [E1.out])
   go_quiet (fail)
   go_wp2_with (go_at_call 67;refine(l6In_calls _ _ _ _).mono ?_;rintro e w' ⟨rfl,rfl⟩;rw [E2.out])
   go_ret2
   exact⟨by rw [HR.out];exact⟨_,rfl⟩,by first | exact(below_drewN' (hb3 _ _ _) _).alloc (by simp;omega) _ | exact(below_drewN1 (hb3 _ _ _)).alloc (by simp;omega) _⟩
  | true =>
   have hra:0≤x.act∧x.act≤(p.bodies[b].length:Int)-1:=by simpa [inR] using e2
   obtain⟨q,hq⟩:∃ q:Nat,x.act=(q:Int):=⟨x.act.toNat,by omega⟩
   have hql:q<p.bodies[b].length:=by omega
   obtain⟨af,F,cf,K,ck,rfl,hlf,m0,m1,_,_,hcf,_,hF,_,_,_⟩:=at_act hE hql
   have hlf2:(af.add (q*4)).block<w.heap.size:=by rw [block_add];exact hlf
   have a0:∀ o1 o2 o3,(((w.alloc o1).alloc o2).alloc o3).cell? (af.add (x.act.toNat*4))=some (.int .i64 p.bodies[b][q].kind):=by rw [hq,Int.toNat_natCast];exact fun o1 o2 o3=>((hb3 o1 o2 o3).cell (p:=af.add (q*4)) hlf2).trans m0
   have a1:∀ o1 o2 o3,(((w.alloc o1).alloc o2).alloc o3).cell? ⟨(af.add (x.act.toNat*4)).block,(af.add (x.act.toNat*4)).off+1,none⟩=some (.slice F p.bodies[b][q].deeds.length cf):=by rw [hq,Int.toNat_natCast];exact fun o1 o2 o3=>((hb3 o1 o2 o3).cell (p:=⟨(af.add (q*4)).block,(af.add (q*4)).off+1,none⟩) hlf2).trans m1
   have hget:p.bodies[b].getD x.act.toNat noAct=p.bodies[b][q]:=by rw [hq,Int.toNat_natCast];exact getD_at _ _ _ hql
   have HG:=Lib.hid hget
   have v1:x.act<p.bodies[b].length:=by omega
   have v2:(0:Int)≤x.act:=by omega
   by_cases hk:p.bodies[b][q].kind=1
   ·have k1:(p.bodies[b][q].kind != 1)=false:=by simp [hk]
    have HR:Hid (entryDeeds p s x=some p.bodies[b][q].deeds):=Lib.hid (by rw [HED.out,hget,if_pos (by rw [e2];simp [hk])])
    have E2:=Lib.hid e2
    clear e2 hra hq hget m0 m1 hk
    go_enter Tryz.func36,Tryz.ntmps36
    go_wp2_with (go_at_call 67;refine(l6In_calls _ _ _ _).mono ?_;rintro e w' ⟨rfl,rfl⟩;rw [E1.out])
    go_quiet (fail)
    go_wp2_with (go_at_call 67;refine(l6In_calls _ _ _ _).mono ?_;rintro e w' ⟨rfl,rfl⟩;rw [E2.out])
    go_ret2
    exact⟨by rw [HR.out];exact⟨F,cf,rfl,hF⟩,by repeat' (first | exact hb3 _ _ _ | apply below_drewN1)⟩
   ·have k1:(p.bodies[b][q].kind != 1)=true:=bne_iff_ne.2 hk
    have HR:Hid (entryDeeds p s x=none):=Lib.hid (by rw [HED.out,hget,if_neg (by rw [e2];simp [hk])])
    have E2:=Lib.hid e2
    clear e2 hra hq hget m0 m1 hk
    go_enter Tryz.func36,Tryz.ntmps36
    go_wp2_with (go_at_call 67;refine(l6In_calls _ _ _ _).mono ?_;rintro e w' ⟨rfl,rfl⟩;rw [E1.out])
    go_quiet (fail)
    go_wp2_with (go_at_call 67;refine(l6In_calls _ _ _ _).mono ?_;rintro e w' ⟨rfl,rfl⟩;rw [E2.out])
    go_ret2
    exact⟨by rw [HR.out];exact⟨_,rfl⟩,by first | exact(below_drewN' (hb3 _ _ _) _).alloc (by simp;omega) _ | exact(below_drewN1 (hb3 _ _ _)).alloc (by simp;omega) _⟩
end Go.Proofs.YtjacjafmimgfcaaGreat
namespace Go.Proofs.YtjacjafmimgfcaaGreat
open Go.RowKit
def ResLogDo (r:Option (List Int × List (List Int))) (B:Nat) (e:Ending) (w':World):Prop :=
 match r with
 | none=>∃ A1 A2,e=.returned (.tuple #[.slice A1 0 0,.slice A2 0 0,.bool false])
 | some (c,rs)=>∃ vc vr,e=.returned (.tuple #[vc,vr,.bool true])∧OwnI 3 w' B vc c∧Own (Kd.slice Kd.int) 22 w' B (fun k=>B≤k) vr rs
theorem sysOk_use {p:Prog}{s:Sys}(h:sysOk p s=true):(∀ k,k<s.tasks.length→0≤(s.t k).body∧(s.t k).body<p.bodies.length)∧1≤s.tasks.length∧s.tasks.length≤7∧s.cells.length=p.cells.length∧p.cells.length≤1000∧progOk p=true:=by
 rw [sysOk_parts] at h
 simp only [Bool.and_eq_true,decide_eq_true_eq] at h
 obtain⟨h1,h2,h3,_,h4,_⟩:=h
 have hlen:=formOk_len (by have h1:=h1;unfold progOk at h1;simp only [Bool.and_eq_true] at h1;exact h1.1)
 have h3':1≤s.tasks.length∧s.tasks.length≤7:=by simp [inR] at h3;omega
 exact⟨fun k hk=>((tinv_iff p s (s.t k)).1 ((taskOk_iff p s k).1 (allRange.1 h4 k hk)).1).body,h3'.1,h3'.2,by omega,by omega,h1⟩
theorem specLogDo_bad (p:Prog)(s:Sys)(l:List Entry)(P Q A B C L:Option Addr)(cp cq ca cb cc cl:Nat)(w:World)(S:Nat→Prop)(hP:Row Kd.int w S P p.cells)(hQ:Row (Kd.slice kAct) w S Q p.bodies)(hS:SysR w S s A B C)(hbad:sysOk p s=false) :
  Calls Tryz.prog 10 #[.agg #[.slice P p.cells.length cp,.slice Q p.bodies.length cq],.agg #[.slice A s.cells.length ca,.slice B s.tasks.length cb,.int .i64 s.clock,.slice C s.log.length cc],.slice L l.length cl] w fun e w'=>ResLogDo (logDo p s l) w.heap.size e w'∧Below w.heap.size w w':=by
 have HR:Hid (logDo p s l=none):=Lib.hid (by unfold logDo;rw [if_neg (by rw [hbad];simp)])
 have HB:=Lib.hid hbad
 clear hbad
 have hS2:∀ o1 o2,SysR ((w.alloc o1).alloc o2) S s A B C:=fun o1 o2=>by obtain⟨h1,h2,h3⟩:=hS;exact⟨h1.belowAll (alB2 w o1 o2),h2.belowAll (alB2 w o1 o2),h3.belowAll (alB2 w o1 o2)⟩
 go_enter Tryz.func10,Tryz.ntmps10
 go_wp2_with (go_at_call 30;refine(specSysOk_calls p s P Q A B C cp cq ca cb cc _ S (hP.belowAll (alB2 w _ _)) (hQ.belowAll (alB2 w _ _)) (hS2 _ _)).mono ?_;rintro e w1 ⟨rfl,hb1⟩;rw [HB.out];have hbw1:Below w.heap.size w w1:=below_then (alB2 w _ _) (by simp;omega) hb1)
 go_ret3
 exact⟨by rw [HR.out];exact⟨_,_,rfl⟩,by first | exact hbw1 | exact(hbw1.alloc hbw1.size _).alloc (by have:=hbw1.size;simp;omega) _⟩
end Go.Proofs.YtjacjafmimgfcaaGreat
namespace Go.Proofs.YtjacjafmimgfcaaGreat
open Go.RowKit
theorem tryOf_calls (p:Prog)(s:Sys)(x:Entry)(P Q A B C D U:Option Addr)(cp cq ca cb cc cd cu:Nat)(w:World)(S:Nat→Prop)(hQ:Row (Kd.slice kAct) w S Q p.bodies)(hT:Row kTask w S B s.tasks)(hbody:∀ k,k<s.tasks.length→0≤(s.t k).body∧(s.t k).body<p.bodies.length) :
  Calls Tryz.prog 48 #[.agg #[.slice P p.cells.length cp,.slice Q p.bodies.length cq],.agg #[.slice A s.cells.length ca,.slice B s.tasks.length cb,.int .i64 s.clock,.slice C s.log.length cc],.agg #[.int .i64 x.task,.int .i64 x.act,.int .i64 x.whn,.slice D x.reads.length cd,.slice U x.puts.length cu,.int .i64 x.frm]] w fun e w'=>ResDeeds (entryDeeds p s x) w S e∧Below w.heap.size w w':=by
 have hmt:=hT.1
 have hmq:=hQ.1
 have hb3:=fun o1 o2 o3=>alB3 w o1 o2 o3
 have hw1:IntKind.i64.wrap ((s.tasks.length:Int)-1)=(s.tasks.length:Int)-1:=IntWalk.i64_in _ (by omega)
 have tok1:True:=trivial
 cases e1:inR x.task 0 ((s.tasks.length:Int)-1) with
 | false =>
  have HR:Hid (entryDeeds p s x=none):=Lib.hid (by unfold entryDeeds;rw [if_neg (by rw [e1];simp)])
  have E1:=Lib.hid e1
  clear e1
  go_enter Tryz.func48,Tryz.ntmps48
  go_wp2_with (go_at_call 89;refine(isPlace_calls _ _ _ (by omega)).mono ?_;rintro e w' ⟨rfl,rfl⟩;rw [E1.out])
  go_ret2
  exact⟨by rw [HR.out];exact⟨_,rfl⟩,hb3 _ _ _⟩
 | true =>
  have hrg:0≤x.task∧x.task≤(s.tasks.length:Int)-1:=by simpa [inR] using e1
  have E1:=Lib.hid e1
  obtain⟨z,hz⟩:∃ z:Nat,x.task=(z:Int):=⟨x.task.toNat,by omega⟩
  have hzl:z<s.tasks.length:=by omega
  have hbz:=hbody z hzl
  rw [sys_t hzl] at hbz
  obtain⟨b,hbn⟩:∃ b:Nat,s.tasks[z].body=(b:Int):=⟨s.tasks[z].body.toNat,by omega⟩
  have hbl:b<p.bodies.length:=by omega
  obtain⟨ad,R,O,D',U',cr,co,cd',cu',rfl,hl,_,hat⟩:=at_task hT hzl
  have hlz:(ad.add (z*13)).block<w.heap.size:=by rw [block_add];exact hl
  have j0:=hat.c0
  rw [hbn] at j0
  have j0':∀ o1 o2 o3,(((w.alloc o1).alloc o2).alloc o3).cell? (ad.add (x.task.toNat*13))=some (.int .i64 (b:Nat)):=by rw [hz,Int.toNat_natCast];exact fun o1 o2 o3=>((hb3 o1 o2 o3).cell (p:=ad.add (z*13)) hlz).trans j0
  obtain⟨ae,E,ce,rfl,hle,hce,hcel,hE⟩:=at_slice hQ hbl
  have hlb:(ae.add b).block<w.heap.size:=by rw [block_add];exact hle
  have b0:=fun o1 o2 o3=>((hb3 o1 o2 o3).cell (p:=ae.add b) hlb).trans hce
  have hme:=hE.1
  have hacts:p.acts (s.t x.task.toNat).body=p.bodies[b]:=by rw [hz,Int.toNat_natCast,sys_t hzl,hbn];unfold Prog.acts;rw [Int.toNat_natCast];exact getD_at _ _ _ hbl
  have hed:entryDeeds p s x=if inR x.act 0 ((p.bodies[b].length:Int)-1) && decide ((p.bodies[b].getD x.act.toNat noAct).kind=1) then some (p.bodies[b].getD x.act.toNat noAct).deeds else none:=by unfold entryDeeds;rw [if_pos e1,hacts]
  have HED:=Lib.hid hed
  have y1:x.task<s.tasks.length:=by omega
  have y2:(0:Int)≤x.task:=by omega
  have y3:(b:Int)<p.bodies.length:=by omega
  have y4:(0:Int)≤b:=by omega
  have hw2:IntKind.i64.wrap ((p.bodies[b].length:Int)-1)=(p.bodies[b].length:Int)-1:=IntWalk.i64_in _ (by omega)
  clear hz hbn hacts hat hrg hbz j0 hce e1 hed
  cases e2:inR x.act 0 ((p.bodies[b].length:Int)-1) with
  | false =>
   have HR:Hid (entryDeeds p s x=none):=Lib.hid (by rw [HED.out,if_neg (by rw [e2];simp)])
   have E2:=Lib.hid e2
   clear e2
   go_enter Tryz.func48,Tryz.ntmps48
   go_wp2_with (go_at_call 89;refine(isPlace_calls _ _ _ (by omega)).mono ?_;rintro e w' ⟨rfl,rfl⟩;rw [E1.out])
   go_quiet (fail)
   go_wp2_with (go_at_call 89;refine(isPlace_calls _ _ _ (by omega)).mono ?_;rintro e w' ⟨rfl,rfl⟩;rw [E2.out])
   go_ret2
   exact⟨by rw [HR.out];exact⟨_,rfl⟩,by repeat' (first | exact hb3 _ _ _ | apply below_drewN1)⟩
  | true =>
   have hra:0≤x.act∧x.act≤(p.bodies[b].length:Int)-1:=by simpa [inR] using e2
   obtain⟨q,hq⟩:∃ q:Nat,x.act=(q:Int):=⟨x.act.toNat,by omega⟩
   have hql:q<p.bodies[b].length:=by omega
   obtain⟨af,F,cf,K,ck,rfl,hlf,m0,m1,_,_,hcf,_,hF,_,_,_⟩:=at_act hE hql
   have hlf2:(af.add (q*4)).block<w.heap.size:=by rw [block_add];exact hlf
   have a0:∀ o1 o2 o3,(((w.alloc o1).alloc o2).alloc o3).cell? (af.add (x.act.toNat*4))=some (.int .i64 p.bodies[b][q].kind):=by rw [hq,Int.toNat_natCast];exact fun o1 o2 o3=>((hb3 o1 o2 o3).cell (p:=af.add (q*4)) hlf2).trans m0
   have a1:∀ o1 o2 o3,(((w.alloc o1).alloc o2).alloc o3).cell? ⟨(af.add (x.act.toNat*4)).block,(af.add (x.act.toNat*4)).off+1,none⟩=some (.slice F p.bodies[b][q].deeds.length cf):=by rw [hq,Int.toNat_natCast];exact fun o1 o2 o3=>((hb3 o1 o2 o3).cell (p:=⟨(af.add (q*4)).block,(af.add (q*4)).off+1,none⟩) hlf2).trans m1
   have hget:p.bodies[b].getD x.act.toNat noAct=p.bodies[b][q]:=by rw [hq,Int.toNat_natCast];exact getD_at _ _ _ hql
   have HG:=Lib.hid hget
   have v1:x.act<p.bodies[b].length:=by omega
   have v2:(0:Int)≤x.act:=by omega
   by_cases hk:p.bodies[b][q].kind=1
   ·have k1:(p.bodies[b][q].kind != 1)=false:=by simp [hk]
    have HR:Hid (entryDeeds p s x=some p.bodies[b][q].deeds):=Lib.hid (by rw [HED.out,hget,if_pos (by rw [e2];simp [hk])])
    have E2:=Lib.hid e2
    clear e2 hra hq hget m0 m1 hk
    go_enter Tryz.func48,Tryz.ntmps48
    go_wp2_with (go_at_call 89;refine(isPlace_calls _ _ _ (by omega)).mono ?_;rintro e w' ⟨rfl,rfl⟩;rw [E1.out])
    go_quiet (fail)
    go_wp2_with (go_at_call 89;refine(isPlace_calls _ _ _ (by omega)).mono ?_;rintro e w' ⟨rfl,rfl⟩;rw [E2.out])
    go_ret2
    exact⟨by rw [HR.out];exact⟨F,cf,rfl,hF⟩,by repeat' (first | exact hb3 _ _ _ | apply below_drewN1)⟩
   ·have k1:(p.bodies[b][q].kind != 1)=true:=bne_iff_ne.2 hk
    have HR:Hid (entryDeeds p s x=none):=Lib.hid (by rw [HED.out,hget,if_neg (by rw [e2];simp [hk])])
    have E2:=Lib.hid e2
    clear e2 hra hq hget m0 m1 hk
    go_enter Tryz.func48,Tryz.ntmps48
    go_wp2_with (go_at_call 89;refine(isPlace_calls _ _ _ (by omega)).mono ?_;rintro e w' ⟨rfl,rfl⟩;rw [E1.out])
    go_quiet (fail)
    go_wp2_with (go_at_call 89;refine(isPlace_calls _ _ _ (by omega)).mono ?_;rintro e w' ⟨rfl,rfl⟩;rw [E2.out])
    go_ret2
    exact⟨by rw [HR.out];exact⟨_,rfl⟩,by repeat' (first | exact hb3 _ _ _ | apply below_drewN1)⟩
end Go.Proofs.YtjacjafmimgfcaaGreat
namespace Go.Proofs.YtjacjafmimgfcaaGreat
open Go.RowKit
theorem putAllI_calls (cells:List Int)(l:List Put)(A B:Option Addr)(ca cb base:Nat)(w:World)(S:Nat→Prop)(hO:OwnI 3 w base (.slice A cells.length ca) cells)(hr:Row kPut w S B l)(hS:∀ k,S k→k<w.heap.size→Value.ownBlock (.slice A cells.length ca)≠some k)(hi:∀ x ∈ l,isI x.num)(hcl:cells.length≤1000) :
  Calls Tryz.prog 65 #[.slice A cells.length ca,.slice B l.length cb] w fun e w'=>e=.returned (.tuple #[])∧OwnI 3 w' base (.slice A cells.length ca) (putAll cells l)∧Keep (fun k=>Value.ownBlock (.slice A cells.length ca)=some k) w w':=by
 have hm:=hr.1
 have hgc:0<cells.length→∃ g,A=some ⟨g,0,none⟩∧g<w.heap.size:=by
  intro h0
  obtain⟨g,c,h1,h2,h3⟩:=hO.place h0
  injection h1 with h1
  exact⟨g,h1,h3⟩
 have HS:=Lib.hid hS
 clear hS
 go_enter Tryz.func65,Tryz.ntmps65
 go_wp2
 go_loopw [5,8] (fun _ i wr=>∃ k:Nat,k≤l.length∧i=.int .i64 k∧OwnI 3 wr base (.slice A cells.length ca) (putAll cells (l.take k))∧Keep (fun k=>Value.ownBlock (.slice A cells.length ca)=some k) w wr) (fun _ i _=>l.length-(intOf i).toNat)
 case atStart=>exact⟨0,Nat.zero_le _,rfl,hO,Keep.refl _ _⟩
 case round =>
  obtain⟨k,hk,rfl,HC,hkr⟩:=hrel
  by_cases hlt:k<l.length
  ·obtain⟨ad,rfl,hl,c0,c1⟩:=at_put (hr.keep hkr (fun q h1 h2 h3=>HS.out q h1 h2 h3)) hlt
   have x1:(k:Int)<l.length:=by omega
   have x3:(0:Int)≤k:=by omega
   have hpl:(putAll cells (l.take k)).length=cells.length:=putAll_len _ _
   have hnext:=putAll_snoc cells l k hlt
   have HNX:=Lib.hid hnext
   have HPL:=Lib.hid hpl
   have hnum:=hi _ (List.getElem_mem hlt)
   have hsz:=hkr.size
   clear hnext hpl
   cases e1:inR l[k].cell 0 ((cells.length:Int)-1) with
   | false =>
    have E1:=Lib.hid e1
    clear e1
    go_wp2_with (go_at_call 89;refine(isPlace_calls _ _ _ (by omega)).mono ?_;rintro e w' ⟨rfl,rfl⟩;rw [E1.out])
    go_roundw
    case rel=>exact⟨k+1,by omega,by go_num,by rw [HNX.out,put1_out _ _ (by rw [HPL.out];exact E1.out)];exact HC.al _,hkr.alloc _⟩
    case measure=>simp [intOf];omega
   | true =>
    have hrg:0≤l[k].cell∧l[k].cell≤(cells.length:Int)-1:=by simpa [inR] using e1
    have E1:=Lib.hid e1
    obtain⟨z,hz⟩:∃ z:Nat,l[k].cell=(z:Int):=⟨l[k].cell.toNat,by omega⟩
    have hzl:z<cells.length:=by omega
    obtain⟨gc,rfl,hge⟩:=hgc (by omega)
    have hc2':=fun o=>HC.al o
    rw [← HPL.out] at hc2'
    have hcy:=fun o=>((hc2' o).cell (j:=z) (by rw [HPL.out];exact hzl)).1
    have hfy:=fun o=>((hc2' o).cell (j:=z) (by rw [HPL.out];exact hzl)).2
    have hzt:l[k].cell.toNat=z:=by rw [hz,Int.toNat_natCast]
    have HZ:=Lib.hid hzt
    have y1:(z:Int)<cells.length:=by omega
    have y2:(0:Int)≤z:=by omega
    rw [hz] at c0
    have HZ2:=Lib.hid hz
    have b1:Hid (inR (z:Int) 0 ((cells.length:Int)-1)=true):=by unfold Hid;rw [← hz];exact e1
    clear hz hrg e1 hzt hc2'
    go_wp2_with (go_at_call 89;refine(isPlace_calls _ _ _ (by omega)).mono ?_;rintro e w' ⟨rfl,rfl⟩;rw [b1.out])
    go_roundw
    case rel =>
     refine⟨k+1,by omega,by go_num,?_,(hkr.alloc _).setCell (p:=⟨gc,z,none⟩) (fun _=>rfl) _⟩
     have h3:=fun o=>HC.al o
     rw [← HPL.out] at h3 ⊢
     rw [HNX.out,put1_in _ _ (by rw [HPL.out];exact E1.out),HZ.out]
     exact(h3 _).set_ (by rw [HPL.out];exact hzl) _ hnum
    case measure=>simp [intOf];omega
  ·have HB:Hid (putAll cells (l.take k)=putAll cells l):=Lib.hid (by rw [show k=l.length by omega,List.take_length])
   go_wp2
   go_end0
   exact⟨rfl,by rw [← HB.out];exact HC,hkr⟩
end Go.Proofs.YtjacjafmimgfcaaGreat
