/- Systems and their steps, as plain Lean: no memory, no Go.; How systems lie in memory.; What is in order, as the program looks at it: the same as the reference says. Plain Lean.; Changes done at once, one behind the other: plain Lean. -/
import Derived.Test.YtjacjafmimgfcaaGreatWab
import Derived.Test.YtjacjafmimgfcaaGreatWad
set_option linter.unusedVariables false
set_option linter.unusedSimpArgs false
namespace Go.Proofs.YtjacjafmimgfcaaGreat
structure Put where
 cell:Int
 num:Int
deriving DecidableEq
structure Cell where
 num:Int
 time:Int
 lock:Int
deriving DecidableEq
structure Task where
 body:Int
 pc:Int
 up:Int
 regs:List Int
 way:Int
 stage:Int
 pos:Int
 since:Int
 old:List Int
 reads:List Put
 puts:List Put
 whn:Int
 frm:Int
deriving DecidableEq
structure Entry where
 task:Int
 act:Int
 whn:Int
 reads:List Put
 puts:List Put
 frm:Int
deriving DecidableEq
structure Sys where
 cells:List Cell
 tasks:List Task
 clock:Int
 log:List Entry
deriving DecidableEq
def noCell:Cell:=⟨0,0,0⟩
def noTask:Task:=⟨0,0,0,[],0,0,0,0,[],[],[],0,0⟩
def noAct:Act:=⟨0,[],[],0⟩
def noPut:Put:=⟨0,0⟩
def Sys.t (s:Sys) (k:Nat):Task:=s.tasks.getD k noTask
def Sys.c (s:Sys) (k:Int):Cell:=s.cells.getD k.toNat noCell
def Sys.setT (s:Sys) (k:Nat) (t:Task):Sys:={ s with tasks:=s.tasks.set k t }
def Prog.acts (p:Prog) (b:Int):List Act:=p.bodies.getD b.toNat []
def Prog.act (p:Prog) (t:Task):Act:=(p.acts t.body).getD t.pc.toNat noAct
def Prog.there (p:Prog) (t:Task):Bool:=decide (t.pc<(p.acts t.body).length)
/-! ### What is in order -/
def putAtOk (l:List Put) (n:Int) (i:Nat):Bool :=
 inR (l.getD i noPut).cell 0 (n-1) && inR (l.getD i noPut).num 0 99 && (decide (i=0) || decide ((l.getD (i-1) noPut).cell<(l.getD i noPut).cell))
def putsOk (l:List Put) (n:Int):Bool:=(List.range l.length).all (putAtOk l n)
def regsOk (l:List Int):Bool:=numsOk l && decide ((l.length:Int)=3)
def posOk (t:Task) (deeds:Int):Bool :=
 if t.stage=0 then decide (t.pos=0) && decide ((t.reads.length:Int)+t.puts.length=0)
 else if t.stage=1 then inR t.pos 0 deeds
 else if t.stage=3 then decide (t.pos=0) && decide ((0:Int)<t.puts.length)
 else if t.stage=4 then inR t.pos 0 t.reads.length && decide ((0:Int)<t.puts.length)
 else inR t.pos 0 ((t.puts.length:Int)-1)
def timesOk (t:Task) (clock logs:Int):Bool :=
 inR t.since 0 clock && inR t.frm 0 logs &&
  (if t.stage=0 then inR t.whn 0 (clock+1) else if t.stage=4∨t.stage=5 then inR t.whn (t.since+1) clock else decide (t.whn=0))
def kidsOf (s:Sys) (task way:Int):Int:=((s.tasks.filter fun t=>decide (t.up=task) && decide (t.way=way)).length:Nat)
def actStand (p:Prog) (s:Sys) (i:Nat):Bool :=
 let t:=s.t i
 if t.way=0 then decide (t.stage=0) || (p.there t && decide ((p.act t).kind=1) && posOk t (p.act t).deeds.length)
 else if t.way=1 then p.there t && decide ((p.act t).kind=2) && decide (((p.act t).kids.length:Int)≤kidsOf s i 0+kidsOf s i 1+kidsOf s i 2+kidsOf s i 3)
 else if t.way=2 then decide (t.pc=(p.acts t.body).length)
 else true
def isLive (t:Task):Bool:=decide (t.way=0) || decide (t.way=1)
def upOk (s:Sys) (i:Nat):Bool :=
 if i=0 then decide ((s.t i).up=-1)
 else inR (s.t i).up 0 ((i:Int)-1) && (!isLive (s.t i) || decide ((s.t (s.t i).up.toNat).way=1))
def taskOk (p:Prog) (s:Sys) (i:Nat):Bool :=
 let t:=s.t i
 inR t.body 0 ((p.bodies.length:Int)-1) && inR t.pc 0 (p.acts t.body).length && inR t.way 0 4 && inR t.stage 0 5 &&
  (decide (t.way=0) || decide (t.stage=0)) && regsOk t.regs && regsOk t.old && putsOk t.reads s.cells.length && putsOk t.puts s.cells.length &&
  (decide (t.stage≠0) || (decide (t.pos=0) && decide ((t.reads.length:Int)+t.puts.length=0))) &&
  timesOk t s.clock s.log.length && upOk s i && actStand p s i
def findPut (l:List Put) (c:Int):Int:=match l.findIdx? (fun x=>decide (x.cell=c)) with | some i=>(i:Nat) | none=>-1
def holds (t:Task) (c:Int):Bool :=
 if findPut t.puts c<0 then false
 else if t.stage=2 then decide (findPut t.puts c<t.pos)
 else if t.stage=3∨t.stage=4 then true
 else if t.stage=5 then decide (t.pos≤findPut t.puts c)
 else false
def cellOk (s:Sys) (i:Nat):Bool :=
 let c:=s.c i
 inR c.num 0 99 && inR c.time 0 s.clock && inR c.lock (-1) ((s.tasks.length:Int)-1) && (List.range s.tasks.length).all fun k=>decide (holds (s.t k) i=decide (c.lock=k))
def cellsOk (s:Sys):Bool:=(List.range s.cells.length).all (cellOk s)
def entryOk (p:Prog) (s:Sys) (e:Entry) (i:Nat):Bool :=
 inR e.task 0 ((s.tasks.length:Int)-1) && inR e.whn 0 s.clock && inR e.frm 0 i && putsOk e.reads s.cells.length && putsOk e.puts s.cells.length &&
  inR e.act 0 (((p.acts (s.t e.task.toNat).body).length:Int)-1)
def noEntry:Entry:=⟨0,0,0,[],[],0⟩
def logOk (p:Prog) (s:Sys):Bool:=(List.range s.log.length).all fun i=>entryOk p s (s.log.getD i noEntry) i
def sysOk (p:Prog) (s:Sys):Bool :=
 progOk p && decide ((s.cells.length:Int)=p.cells.length) && inR s.tasks.length 1 7 && inR s.clock 0 200 &&
  (List.range s.tasks.length).all (taskOk p s) && cellsOk s && logOk p s
/-! ### Steps -/
def newTask (b up:Int):Task:=⟨b,0,up,[0,0,0],0,0,0,0,[0,0,0],[],[],0,0⟩
def sysNew (p:Prog):Option Sys:=if progOk p then some ⟨p.cells.map fun n=>⟨n,0,-1⟩,[newTask 0 (-1)],0,[]⟩ else none
def addPut (l:List Put) (x:Put):List Put:=l.filter (fun y=>decide (y.cell<x.cell)) ++ x :: l.filter (fun y=>decide (x.cell<y.cell))
def freed (cells:List Cell) (k:Int):List Cell:=cells.map fun c=>if c.lock=k then { c with lock:=-1 } else c
def againS (s:Sys) (k:Nat):Sys :=
 { s with cells:=freed s.cells k,tasks:=s.tasks.set k { s.t k with regs:=(s.t k).old,reads:=[],puts:=[],whn:=0,stage:=0,pos:=0 } }
def endEntry (t:Task) (k whn:Int):Entry:=⟨k,t.pc,whn,t.reads,t.puts,t.frm⟩
def endS (s:Sys) (k:Nat) (whn:Int):Sys :=
 { s with log:=s.log ++ [endEntry (s.t k) k whn],tasks:=s.tasks.set k { s.t k with pc:=(s.t k).pc+1,reads:=[],puts:=[],since:=0,whn:=0,frm:=0,stage:=0,pos:=0 } }
def blind (s:Sys) (k:Nat) (c:Int):Bool:=decide (0≤(s.c c).lock) && decide ((s.c c).lock≠k) || decide ((s.t k).since<(s.c c).time)
def beginS (s:Sys) (k:Nat):Sys:=s.setT k { s.t k with since:=s.clock,old:=(s.t k).regs,frm:=s.log.length,whn:=0,stage:=1,pos:=0 }
def stageT (t:Task) (n:Int):Task:={ t with stage:=n,pos:=0 }
def stepT (t:Task):Task:={ t with pos:=t.pos+1 }
def loadS (s:Sys) (k:Nat) (d:Deed):Sys :=
 let t:=s.t k
 if 0≤findPut t.puts d.b then s.setT k (stepT { t with regs:=t.regs.set d.a.toNat (t.puts.getD (findPut t.puts d.b).toNat noPut).num })
 else if blind s k d.b then againS s k
 else s.setT k (stepT { t with regs:=t.regs.set d.a.toNat (s.c d.b).num,reads:=addPut t.reads ⟨d.b,(s.c d.b).num⟩ })
def oneDeed (s:Sys) (k:Nat) (d:Deed):Sys :=
 let t:=s.t k
 if d.kind=1 then loadS s k d
 else if d.kind=2 then s.setT k (stepT { t with puts:=addPut t.puts ⟨d.a,rdI t.regs d.b⟩ })
 else if d.kind=3 then s.setT k (stepT { t with regs:=t.regs.set d.a.toNat d.b })
 else if d.kind=4 then s.setT k (stepT { t with regs:=t.regs.set d.a.toNat ((rdI t.regs d.a+rdI t.regs d.b) % 100) })
 else if rdI t.regs d.a=0 then (againS s k).setT k { (againS s k).t k with whn:=t.since+1 }
 else s.setT k (stepT t)
def noDeed:Deed:=⟨0,0,0⟩
def deedS (s:Sys) (k:Nat) (deeds:List Deed):Sys :=
 let t:=s.t k
 if (deeds.length:Int)≤t.pos then (if t.puts.length=0 then endS s k t.since else s.setT k (stageT t 2))
 else oneDeed s k (deeds.getD t.pos.toNat noDeed)
def lockS (s:Sys) (k:Nat):Sys :=
 let t:=s.t k
 let c:=(t.puts.getD t.pos.toNat noPut).cell
 if 0≤(s.c c).lock then againS s k
 else { s with cells:=s.cells.set c.toNat { s.c c with lock:=k },tasks:=s.tasks.set k (if t.pos+1=t.puts.length then stageT t 3 else stepT t) }
def timeS (s:Sys) (k:Nat):Sys:={ s with clock:=s.clock+1,tasks:=s.tasks.set k (stageT { s.t k with whn:=s.clock+1 } 4) }
def checkS (s:Sys) (k:Nat):Sys :=
 let t:=s.t k
 if (t.reads.length:Int)≤t.pos then s.setT k (stageT t 5)
 else if blind s k (t.reads.getD t.pos.toNat noPut).cell then againS s k
 else s.setT k (stepT t)
def writeS (s:Sys) (k:Nat):Sys :=
 let t:=s.t k
 let x:=t.puts.getD t.pos.toNat noPut
 let s1:Sys:={ s with cells:=s.cells.set x.cell.toNat ⟨x.num,t.whn,-1⟩,tasks:=s.tasks.set k (stepT t) }
 if t.pos+1=t.puts.length then endS s1 k t.whn else s1
def tryS (s:Sys) (k:Nat) (deeds:List Deed):Sys :=
 let t:=s.t k
 if t.stage=0 then beginS s k else if t.stage=1 then deedS s k deeds else if t.stage=2 then lockS s k
 else if t.stage=3 then timeS s k else if t.stage=4 then checkS s k else writeS s k
def writeAll:Nat→Sys→Nat→Sys
 | 0,s,_=>s
 | n+1,s,k=>if (s.t k).stage=5 then writeAll n (writeS s k) k else s
def setWay (s:Sys) (k:Nat) (way:Int):Sys:=s.setT k { s.t k with way:=way }
def offSelf (s:Sys) (k:Nat):Sys :=
 if isLive (s.t k) then
  let s1:=writeAll 4 s k
  let s2:=if (s1.t k).stage=0 then s1 else againS s1 k
  setWay s2 k 4
 else s
def kidList (s:Sys) (k:Nat):List Nat:=(List.range s.tasks.length).filter fun i=>decide ((s.t i).up=k)
def offS:Nat→Sys→Nat→Sys
 | 0,s,_=>s
 | n+1,s,k=>offSelf ((kidList s k).foldl (offS n) s) k
def anyKid (s:Sys) (k:Nat) (f:Task→Bool):Bool:=s.tasks.any fun t=>decide (t.up=k) && f t
def awaitS (s:Sys) (k:Nat):Sys :=
 if anyKid s k (fun t=>decide (t.way=3)) then setWay ((kidList s k).foldl (offS s.tasks.length) s) k 3
 else s.setT k { s.t k with way:=0,pc:=(s.t k).pc+1 }
def forkS (s:Sys) (k:Nat) (kids:List Int):Sys:=setWay { s with tasks:=s.tasks ++ kids.map fun b=>newTask b k } k 1
def readyS (s:Sys) (k:Nat):Bool :=
 decide (s.clock<200) &&
  (if (s.t k).way=0 then decide ((s.t k).stage≠0) || decide ((s.t k).whn≤s.clock)
   else if (s.t k).way=1 then anyKid s k (fun t=>decide (t.way=3)) || !anyKid s k isLive else false)
def stepS (p:Prog) (s:Sys) (k:Nat):Sys :=
 let t:=s.t k
 let a:=p.act t
 if t.way=1 then awaitS s k
 else if p.there t=false then setWay s k 2
 else if a.kind=1 then tryS s k a.deeds
 else if a.kind=2 then forkS s k a.kids
 else if a.kind=3∨rdI t.regs a.reg≠0 then setWay s k 3
 else s.setT k { t with pc:=t.pc+1 }
def doS (p:Prog) (s:Sys) (k:Int):Option Sys:=if inR k 0 ((s.tasks.length:Int)-1) && readyS s k.toNat then some (stepS p s k.toNat) else none
def runS (p:Prog) (s:Sys):List Int→Sys
 | []=>s
 | k :: r=>runS p ((doS p s k).getD s) r
def roundS (p:Prog):Nat→Sys→Nat→Nat→Bool→Sys × Nat × Bool
 | 0,s,_,left,b=>(s,left,b)
 | n+1,s,i,left,b =>
  if i<s.tasks.length∧0<left then
   match doS p s i with
   | some s'=>roundS p n s' (i+1) (left-1) true
   | none=>roundS p n s (i+1) left b
  else (s,left,b)
def restS (p:Prog):Nat→Sys→Nat→Sys
 | 0,s,_=>s
 | n+1,s,left =>
  if 0<left then
   let r:=roundS p (s.tasks.length+3*left) s 0 left false
   if r.2.2 then restS p n r.1 r.2.1 else r.1
  else s
end Go.Proofs.YtjacjafmimgfcaaGreat
namespace Go.Proofs.YtjacjafmimgfcaaGreat
open Go.RowKit
def Kd.raw:Kd Int where
 sz:=1
 K:=fun _ _ x cs=>cs=[.int .i64 x]
 len:=fun h=>by rw [h];rfl
 one:=fun h u hu=>by rw [h] at hu;rw [List.mem_singleton.1 hu];rfl
 mono:=fun _ h=>h
 bound:=fun h=>h
 move:=fun _ h=>h
def Kd.flat {α:Type} (n:Nat) (enc:α→List Value) (hl:∀ x,(enc x).length=n) (h1:∀ x,∀ u ∈ enc x,u.oneCell'=true):Kd α where
 sz:=n
 K:=fun _ _ x cs=>cs=enc x
 len:=fun h=>by rw [h];exact hl _
 one:=fun h u hu=>by rw [h] at hu;exact h1 _ u hu
 mono:=fun _ h=>h
 bound:=fun h=>h
 move:=fun _ h=>h
def encPut (x:Put):List Value:=[.int .i64 x.cell,.int .i64 x.num]
def encCell (x:Cell):List Value:=[.int .i64 x.num,.int .i64 x.time,.int .i64 x.lock]
def kPut:Kd Put:=Kd.flat 2 encPut (fun _=>rfl) (fun x u hu=>by simp [encPut] at hu;rcases hu with rfl | rfl<;>rfl)
def kCell:Kd Cell:=Kd.flat 3 encCell (fun _=>rfl) (fun x u hu=>by simp [encCell] at hu;rcases hu with rfl | rfl | rfl<;>rfl)
def encTask (t:Task) (r o d u:Value):List Value :=
 [.int .i64 t.body,.int .i64 t.pc,.int .i64 t.up,r,.int .i64 t.way,.int .i64 t.stage,.int .i64 t.pos,.int .i64 t.since,o,d,u,.int .i64 t.whn,.int .i64 t.frm]
def encEntry (e:Entry) (d u:Value):List Value:=[.int .i64 e.task,.int .i64 e.act,.int .i64 e.whn,d,u,.int .i64 e.frm]
def kTask:Kd Task where
 sz:=13
 K:=fun w S t cs=>∃ r o d u,cs=encTask t r o d u∧(Kd.slice Kd.int).K w S t.regs [r]∧(Kd.slice Kd.int).K w S t.old [o]∧(Kd.slice kPut).K w S t.reads [d]∧(Kd.slice kPut).K w S t.puts [u]
 len:=by rintro w S t cs ⟨r,o,d,u,rfl,_⟩;rfl
 one:=by
  rintro w S t cs ⟨r,o,d,u,rfl,h1,h2,h3,h4⟩ x hx
  have o1:=(Kd.slice Kd.int).one h1 r (List.mem_singleton.2 rfl)
  have o2:=(Kd.slice Kd.int).one h2 o (List.mem_singleton.2 rfl)
  have o3:=(Kd.slice kPut).one h3 d (List.mem_singleton.2 rfl)
  have o4:=(Kd.slice kPut).one h4 u (List.mem_singleton.2 rfl)
  simp only [encTask,List.mem_cons,List.not_mem_nil,or_false] at hx
  rcases hx with rfl | rfl | rfl | rfl | rfl | rfl | rfl | rfl | rfl | rfl | rfl | rfl | rfl<;>first | rfl | assumption
 mono:=by rintro w S S' t cs hS ⟨r,o,d,u,rfl,h1,h2,h3,h4⟩;exact⟨r,o,d,u,rfl,(Kd.slice Kd.int).mono hS h1,(Kd.slice Kd.int).mono hS h2,(Kd.slice kPut).mono hS h3,(Kd.slice kPut).mono hS h4⟩
 bound:=by rintro w S t cs ⟨r,o,d,u,rfl,h1,h2,h3,h4⟩;exact⟨r,o,d,u,rfl,(Kd.slice Kd.int).bound h1,(Kd.slice Kd.int).bound h2,(Kd.slice kPut).bound h3,(Kd.slice kPut).bound h4⟩
 move:=by rintro w w' S t cs hm ⟨r,o,d,u,rfl,h1,h2,h3,h4⟩;exact⟨r,o,d,u,rfl,(Kd.slice Kd.int).move hm h1,(Kd.slice Kd.int).move hm h2,(Kd.slice kPut).move hm h3,(Kd.slice kPut).move hm h4⟩
def kEntry:Kd Entry where
 sz:=6
 K:=fun w S e cs=>∃ d u,cs=encEntry e d u∧(Kd.slice kPut).K w S e.reads [d]∧(Kd.slice kPut).K w S e.puts [u]
 len:=by rintro w S e cs ⟨d,u,rfl,_⟩;rfl
 one:=by
  rintro w S e cs ⟨d,u,rfl,h3,h4⟩ x hx
  have o3:=(Kd.slice kPut).one h3 d (List.mem_singleton.2 rfl)
  have o4:=(Kd.slice kPut).one h4 u (List.mem_singleton.2 rfl)
  simp only [encEntry,List.mem_cons,List.not_mem_nil,or_false] at hx
  rcases hx with rfl | rfl | rfl | rfl | rfl | rfl<;>first | rfl | assumption
 mono:=by rintro w S S' e cs hS ⟨d,u,rfl,h3,h4⟩;exact⟨d,u,rfl,(Kd.slice kPut).mono hS h3,(Kd.slice kPut).mono hS h4⟩
 bound:=by rintro w S e cs ⟨d,u,rfl,h3,h4⟩;exact⟨d,u,rfl,(Kd.slice kPut).bound h3,(Kd.slice kPut).bound h4⟩
 move:=by rintro w w' S e cs hm ⟨d,u,rfl,h3,h4⟩;exact⟨d,u,rfl,(Kd.slice kPut).move hm h3,(Kd.slice kPut).move hm h4⟩
theorem kCell_sz:kCell.sz=3:=rfl
theorem kSlice_open {α:Type}{k:Kd α}{w:World}{S:Nat→Prop}{xs:List α}{v:Value}(h:(Kd.slice k).K w S xs [v]):∃ A c,v=.slice A xs.length c∧xs.length≤c∧Row k w S A xs:=by
 obtain⟨A,c,e,hl,hr⟩:=h
 injection e with e
 exact⟨A,c,e,hl,hr⟩
theorem kSlice_mk {α:Type}{k:Kd α}{w:World}{S:Nat→Prop}{xs:List α}{A:Option Addr}{c:Nat}(hl:xs.length≤c)(hr:Row k w S A xs):(Kd.slice k).K w S xs [.slice A xs.length c]:=⟨A,c,rfl,hl,hr⟩
structure TaskRows (w:World) (S:Nat→Prop) (t:Task) (R O D U:Option Addr) (cr co cd cu:Nat):Prop where
 lr:t.regs.length≤cr
 lo:t.old.length≤co
 ld:t.reads.length≤cd
 lu:t.puts.length≤cu
 r:Row Kd.int w S R t.regs
 o:Row Kd.int w S O t.old
 d:Row kPut w S D t.reads
 u:Row kPut w S U t.puts
structure EntryRows (w:World) (S:Nat→Prop) (e:Entry) (D U:Option Addr) (cd cu:Nat):Prop where
 ld:e.reads.length≤cd
 lu:e.puts.length≤cu
 d:Row kPut w S D e.reads
 u:Row kPut w S U e.puts
def taskV (t:Task) (R O D U:Option Addr) (cr co cd cu:Nat):List Value:=encTask t (.slice R t.regs.length cr) (.slice O t.old.length co) (.slice D t.reads.length cd) (.slice U t.puts.length cu)
def entryV (e:Entry) (D U:Option Addr) (cd cu:Nat):List Value:=encEntry e (.slice D e.reads.length cd) (.slice U e.puts.length cu)
section
variable {w w':World}{S S':Nat→Prop}{A:Option Addr}{j:Nat}
theorem kTask_open {t:Task}{cs:List Value}(h:kTask.K w S t cs):∃ R O D U cr co cd cu,cs=taskV t R O D U cr co cd cu∧TaskRows w S t R O D U cr co cd cu:=by
 obtain⟨r,o,d,u,rfl,h1,h2,h3,h4⟩:=h
 obtain⟨R,cr,rfl,l1,r1⟩:=kSlice_open h1
 obtain⟨O,co,rfl,l2,r2⟩:=kSlice_open h2
 obtain⟨D,cd,rfl,l3,r3⟩:=kSlice_open h3
 obtain⟨U,cu,rfl,l4,r4⟩:=kSlice_open h4
 exact⟨R,O,D,U,cr,co,cd,cu,rfl,l1,l2,l3,l4,r1,r2,r3,r4⟩
theorem kEntry_open {e:Entry}{cs:List Value}(h:kEntry.K w S e cs):∃ D U cd cu,cs=entryV e D U cd cu∧EntryRows w S e D U cd cu:=by
 obtain⟨d,u,rfl,h3,h4⟩:=h
 obtain⟨D,cd,rfl,l3,r3⟩:=kSlice_open h3
 obtain⟨U,cu,rfl,l4,r4⟩:=kSlice_open h4
 exact⟨D,U,cd,cu,rfl,l3,l4,r3,r4⟩
theorem TaskRows.below {t:Task}{R O D U:Option Addr}{cr co cd cu:Nat}(h:TaskRows w S t R O D U cr co cd cu)(hb:Below w.heap.size w w'):TaskRows w' S t R O D U cr co cd cu :=
 ⟨h.lr,h.lo,h.ld,h.lu,h.r.belowAll hb,h.o.belowAll hb,h.d.belowAll hb,h.u.belowAll hb⟩
theorem EntryRows.below {e:Entry}{D U:Option Addr}{cd cu:Nat}(h:EntryRows w S e D U cd cu)(hb:Below w.heap.size w w'):EntryRows w' S e D U cd cu :=
 ⟨h.ld,h.lu,h.d.belowAll hb,h.u.belowAll hb⟩
theorem add_at (a:Addr)(i j:Nat)(hj:j≠0)(c:Option Value)(h:w.cell? (a.add (i+j))=c):w.cell? ⟨(a.add i).block,(a.add i).off+j,none⟩=c:=by rw [← add_pos' _ _ j hj];exact h
theorem at_put {xs:List Put}(h:Row kPut w S A xs)(hj:j<xs.length):∃ ad,A=some ad∧ad.block<w.heap.size∧w.cell? (ad.add (j*2))=some (.int .i64 xs[j].cell)∧w.cell? ⟨(ad.add (j*2)).block,(ad.add (j*2)).off+1,none⟩=some (.int .i64 xs[j].num):=by
 obtain⟨ad,c,rfl,_,hl,rfl,hc⟩:=h.get hj
 exact⟨ad,rfl,hl,hc 0 _ rfl,add_at _ _ 1 (by omega) _ (hc 1 _ rfl)⟩
theorem at_cell {xs:List Cell}(h:Row kCell w S A xs)(hj:j<xs.length):∃ ad,A=some ad∧ad.block<w.heap.size∧w.cell? (ad.add (j*3))=some (.int .i64 xs[j].num)∧w.cell? ⟨(ad.add (j*3)).block,(ad.add (j*3)).off+1,none⟩=some (.int .i64 xs[j].time)∧w.cell? ⟨(ad.add (j*3)).block,(ad.add (j*3)).off+2,none⟩=some (.int .i64 xs[j].lock):=by
 obtain⟨ad,c,rfl,_,hl,rfl,hc⟩:=h.get hj
 exact⟨ad,rfl,hl,hc 0 _ rfl,add_at _ _ 1 (by omega) _ (hc 1 _ rfl),add_at _ _ 2 (by omega) _ (hc 2 _ rfl)⟩
structure TaskAt (w:World) (a:Addr) (t:Task) (r o d u:Value):Prop where
 c0:w.cell? a=some (.int .i64 t.body)
 c1:w.cell? ⟨a.block,a.off+1,none⟩=some (.int .i64 t.pc)
 c2:w.cell? ⟨a.block,a.off+2,none⟩=some (.int .i64 t.up)
 c3:w.cell? ⟨a.block,a.off+3,none⟩=some r
 c4:w.cell? ⟨a.block,a.off+4,none⟩=some (.int .i64 t.way)
 c5:w.cell? ⟨a.block,a.off+5,none⟩=some (.int .i64 t.stage)
 c6:w.cell? ⟨a.block,a.off+6,none⟩=some (.int .i64 t.pos)
 c7:w.cell? ⟨a.block,a.off+7,none⟩=some (.int .i64 t.since)
 c8:w.cell? ⟨a.block,a.off+8,none⟩=some o
 c9:w.cell? ⟨a.block,a.off+9,none⟩=some d
 c10:w.cell? ⟨a.block,a.off+10,none⟩=some u
 c11:w.cell? ⟨a.block,a.off+11,none⟩=some (.int .i64 t.whn)
 c12:w.cell? ⟨a.block,a.off+12,none⟩=some (.int .i64 t.frm)
structure EntryAt (w:World) (a:Addr) (e:Entry) (d u:Value):Prop where
 c0:w.cell? a=some (.int .i64 e.task)
 c1:w.cell? ⟨a.block,a.off+1,none⟩=some (.int .i64 e.act)
 c2:w.cell? ⟨a.block,a.off+2,none⟩=some (.int .i64 e.whn)
 c3:w.cell? ⟨a.block,a.off+3,none⟩=some d
 c4:w.cell? ⟨a.block,a.off+4,none⟩=some u
 c5:w.cell? ⟨a.block,a.off+5,none⟩=some (.int .i64 e.frm)
theorem taskAt_of {ad:Addr}{n:Nat}{t:Task}{r o d u:Value}(hc:∀ i v,(encTask t r o d u)[i]?=some v→w.cell? (ad.add (n+i))=some v):TaskAt w (ad.add n) t r o d u :=
 ⟨hc 0 _ rfl,add_at _ _ 1 (by omega) _ (hc 1 _ rfl),add_at _ _ 2 (by omega) _ (hc 2 _ rfl),add_at _ _ 3 (by omega) _ (hc 3 _ rfl),add_at _ _ 4 (by omega) _ (hc 4 _ rfl),add_at _ _ 5 (by omega) _ (hc 5 _ rfl),add_at _ _ 6 (by omega) _ (hc 6 _ rfl),add_at _ _ 7 (by omega) _ (hc 7 _ rfl),add_at _ _ 8 (by omega) _ (hc 8 _ rfl),add_at _ _ 9 (by omega) _ (hc 9 _ rfl),add_at _ _ 10 (by omega) _ (hc 10 _ rfl),add_at _ _ 11 (by omega) _ (hc 11 _ rfl),add_at _ _ 12 (by omega) _ (hc 12 _ rfl)⟩
theorem entryAt_of {ad:Addr}{n:Nat}{e:Entry}{d u:Value}(hc:∀ i v,(encEntry e d u)[i]?=some v→w.cell? (ad.add (n+i))=some v):EntryAt w (ad.add n) e d u :=
 ⟨hc 0 _ rfl,add_at _ _ 1 (by omega) _ (hc 1 _ rfl),add_at _ _ 2 (by omega) _ (hc 2 _ rfl),add_at _ _ 3 (by omega) _ (hc 3 _ rfl),add_at _ _ 4 (by omega) _ (hc 4 _ rfl),add_at _ _ 5 (by omega) _ (hc 5 _ rfl)⟩
theorem TaskAt.below {a:Addr}{t:Task}{r o d u:Value}(h:TaskAt w a t r o d u)(hb:Below w.heap.size w w')(ha:a.block<w.heap.size):TaskAt w' a t r o d u :=
 ⟨(hb.cell ha).trans h.c0,(hb.cell (p:=⟨a.block,_,none⟩) ha).trans h.c1,(hb.cell (p:=⟨a.block,_,none⟩) ha).trans h.c2,(hb.cell (p:=⟨a.block,_,none⟩) ha).trans h.c3,(hb.cell (p:=⟨a.block,_,none⟩) ha).trans h.c4,(hb.cell (p:=⟨a.block,_,none⟩) ha).trans h.c5,(hb.cell (p:=⟨a.block,_,none⟩) ha).trans h.c6,(hb.cell (p:=⟨a.block,_,none⟩) ha).trans h.c7,(hb.cell (p:=⟨a.block,_,none⟩) ha).trans h.c8,(hb.cell (p:=⟨a.block,_,none⟩) ha).trans h.c9,(hb.cell (p:=⟨a.block,_,none⟩) ha).trans h.c10,(hb.cell (p:=⟨a.block,_,none⟩) ha).trans h.c11,(hb.cell (p:=⟨a.block,_,none⟩) ha).trans h.c12⟩
theorem EntryAt.below {a:Addr}{e:Entry}{d u:Value}(h:EntryAt w a e d u)(hb:Below w.heap.size w w')(ha:a.block<w.heap.size):EntryAt w' a e d u :=
 ⟨(hb.cell ha).trans h.c0,(hb.cell (p:=⟨a.block,_,none⟩) ha).trans h.c1,(hb.cell (p:=⟨a.block,_,none⟩) ha).trans h.c2,(hb.cell (p:=⟨a.block,_,none⟩) ha).trans h.c3,(hb.cell (p:=⟨a.block,_,none⟩) ha).trans h.c4,(hb.cell (p:=⟨a.block,_,none⟩) ha).trans h.c5⟩
theorem at_task {xs:List Task}(h:Row kTask w S A xs)(hj:j<xs.length):∃ ad R O D U cr co cd cu,A=some ad∧ad.block<w.heap.size∧TaskRows w S xs[j] R O D U cr co cd cu ∧
  TaskAt w (ad.add (j*13)) xs[j] (.slice R xs[j].regs.length cr) (.slice O xs[j].old.length co) (.slice D xs[j].reads.length cd) (.slice U xs[j].puts.length cu):=by
 obtain⟨ad,c,rfl,_,hl,hk,hc⟩:=h.get hj
 obtain⟨R,O,D,U,cr,co,cd,cu,rfl,hrows⟩:=kTask_open hk
 exact⟨ad,R,O,D,U,cr,co,cd,cu,rfl,hl,hrows,taskAt_of hc⟩
theorem at_entry {xs:List Entry}(h:Row kEntry w S A xs)(hj:j<xs.length):∃ ad D U cd cu,A=some ad∧ad.block<w.heap.size∧EntryRows w S xs[j] D U cd cu ∧
  EntryAt w (ad.add (j*6)) xs[j] (.slice D xs[j].reads.length cd) (.slice U xs[j].puts.length cu):=by
 obtain⟨ad,c,rfl,_,hl,hk,hc⟩:=h.get hj
 obtain⟨D,U,cd,cu,rfl,hrows⟩:=kEntry_open hk
 exact⟨ad,D,U,cd,cu,rfl,hl,hrows,entryAt_of hc⟩
end
structure SysR (w:World) (S:Nat→Prop) (s:Sys) (A B C:Option Addr):Prop where
 c:Row kCell w S A s.cells
 t:Row kTask w S B s.tasks
 l:Row kEntry w S C s.log
theorem SysR.below {w w':World}{S:Nat→Prop}{s:Sys}{A B C:Option Addr}(h:SysR w S s A B C)(hb:Below w.heap.size w w'):SysR w' S s A B C:=⟨h.c.belowAll hb,h.t.belowAll hb,h.l.belowAll hb⟩
theorem SysR.mono {w:World}{S S':Nat→Prop}{s:Sys}{A B C:Option Addr}(h:SysR w S s A B C)(hS:∀ k,S k→S' k):SysR w S' s A B C:=⟨h.c.mono hS,h.t.mono hS,h.l.mono hS⟩
theorem SysR.step {w w':World}{S:Nat→Prop}{s:Sys}{A B C:Option Addr}(h:SysR w S s A B C)(hm:∀ k,S k→k<w.heap.size→w'.heap[k]?=w.heap[k]?):SysR w' S s A B C:=⟨h.c.step hm,h.t.step hm,h.l.step hm⟩
end Go.Proofs.YtjacjafmimgfcaaGreat
namespace Go.Proofs.YtjacjafmimgfcaaGreat
/-! ### The program's words -/
def formOkI (p:Prog) (s:Sys) (t:Task):Bool :=
 inR t.body 0 ((p.bodies.length:Int)-1) && inR t.pc 0 (p.acts t.body).length && inR t.way 0 4 && regsOk t.regs && regsOk t.old &&
  inR t.since 0 s.clock && inR t.frm 0 s.log.length && putsOk t.reads s.cells.length && putsOk t.puts s.cells.length
def stageOkI (p:Prog) (s:Sys) (t:Task):Bool :=
 if t.stage=0 then decide (t.pos=0) && decide (t.reads.length=0) && decide (t.puts.length=0) && inR t.whn 0 (s.clock+1)
 else if t.way=0∧p.there t=true∧(p.act t).kind=1 then
  (if t.stage=1 then inR t.pos 0 (p.act t).deeds.length && decide (t.whn=0)
   else if t.stage=2 then inR t.pos 0 ((t.puts.length:Int)-1) && decide (t.whn=0)
   else if t.stage=3 then decide (0<t.puts.length) && decide (t.pos=0) && decide (t.whn=0)
   else if t.stage=4 then decide (0<t.puts.length) && inR t.pos 0 t.reads.length && inR t.whn (t.since+1) s.clock
   else if t.stage=5 then inR t.pos 0 ((t.puts.length:Int)-1) && inR t.whn (t.since+1) s.clock
   else false)
 else false
def kidsI (s:Sys) (k:Nat):List Nat:=(List.range s.tasks.length).filter fun i=>decide (k<i) && decide ((s.t i).up=k)
def wayOkI (p:Prog) (s:Sys) (i:Nat):Bool :=
 let t:=s.t i
 if t.way=1 then p.there t && decide ((p.act t).kind=2) && decide ((p.act t).kids.length≤((kidsI s i).filter fun k=>decide ((s.t k).way≠4)).length)
 else if t.way=2 then !p.there t else true
def mustHold (t:Task):List Put :=
 if t.stage=2 then t.puts.take t.pos.toNat else if t.stage=3∨t.stage=4 then t.puts else if t.stage=5 then t.puts.drop t.pos.toNat else []
def holdAll (h:List Int) (i:Int):List Put→Option (List Int)
 | []=>some h
 | x :: r=>if h.getD x.cell.toNat 0≠-1 then none else holdAll (h.set x.cell.toNat i) i r
def holdTasks (h:List Int) (i:Nat):List Task→Option (List Int)
 | []=>some h
 | t :: r=>match holdAll h i (mustHold t) with | none=>none | some h'=>holdTasks h' (i+1) r
def locksOkI (s:Sys):Bool :=
 match holdTasks (List.replicate s.cells.length (-1)) 0 s.tasks with
 | none=>false
 | some h=>(List.range s.cells.length).all fun i=>decide ((s.c i).lock=h.getD i 0)
def cellsOkI (s:Sys):Bool:=s.cells.all fun c=>inR c.num 0 99 && inR c.time 0 s.clock
def entryOkI (p:Prog) (s:Sys) (e:Entry) (i:Nat):Bool :=
 inR e.task 0 ((s.tasks.length:Int)-1) && inR e.act 0 (((p.acts (s.t e.task.toNat).body).length:Int)-1) && inR e.whn 0 s.clock && inR e.frm 0 i && putsOk e.reads s.cells.length && putsOk e.puts s.cells.length
def logOkI (p:Prog) (s:Sys):Bool:=(List.range s.log.length).all fun i=>entryOkI p s (s.log.getD i noEntry) i
def sysOkI (p:Prog) (s:Sys):Bool :=
 progOk p && decide ((s.cells.length:Int)=p.cells.length) && inR s.clock 0 200 && cellsOkI s && inR s.tasks.length 1 7 &&
  s.tasks.all (fun t=>formOkI p s t && stageOkI p s t) && (List.range s.tasks.length).all (fun i=>upOk s i && wayOkI p s i) && locksOkI s && logOkI p s
/-! ### The same -/
theorem entryOkI_eq (p:Prog)(s:Sys)(e:Entry)(i:Nat):entryOkI p s e i=entryOk p s e i:=by
 unfold entryOkI entryOk
 generalize inR e.task 0 ((s.tasks.length:Int)-1)=a
 generalize inR e.act 0 (((p.acts (s.t e.task.toNat).body).length:Int)-1)=b
 generalize inR e.whn 0 s.clock=c
 generalize inR e.frm 0 i=d
 generalize putsOk e.reads s.cells.length=x
 generalize putsOk e.puts s.cells.length=y
 cases a<;>cases b<;>cases c<;>cases d<;>cases x<;>cases y<;>rfl
theorem logOkI_eq (p:Prog)(s:Sys):logOkI p s=logOk p s:=by
 unfold logOkI logOk
 simp only [entryOkI_eq]
theorem sys_t {s:Sys}{k:Nat}(h:k<s.tasks.length):s.t k=s.tasks[k]:=by
 unfold Sys.t;simp [List.getD_eq_getElem?_getD,h]
theorem sys_c {s:Sys}{k:Nat}(h:k<s.cells.length):s.c (k:Int)=s.cells[k]:=by
 unfold Sys.c;simp [List.getD_eq_getElem?_getD,h]
theorem there_iff (p:Prog)(t:Task):p.there t=true ↔ t.pc<(p.acts t.body).length:=by unfold Prog.there;simp
theorem task_stage (p:Prog)(s:Sys)(t:Task) :
  (formOkI p s t=true∧stageOkI p s t=true∧(t.way=1→p.there t=true∧(p.act t).kind=2)∧(t.way=2→p.there t=false)) ↔
  (inR t.body 0 ((p.bodies.length:Int)-1)=true∧inR t.pc 0 (p.acts t.body).length=true∧inR t.way 0 4=true∧inR t.stage 0 5=true∧(t.way=0∨t.stage=0)∧regsOk t.regs=true∧regsOk t.old=true ∧
   putsOk t.reads s.cells.length=true∧putsOk t.puts s.cells.length=true∧(t.stage≠0∨(t.pos=0∧(t.reads.length:Int)+t.puts.length=0))∧timesOk t s.clock s.log.length=true ∧
   (t.way=0→t.stage=0∨(p.there t=true∧(p.act t).kind=1∧posOk t (p.act t).deeds.length=true))∧(t.way=1→p.there t=true∧(p.act t).kind=2)∧(t.way=2→t.pc=(p.acts t.body).length)):=by
 have hth:∀ b,p.there t=b→(b=true ↔ t.pc<(p.acts t.body).length):=fun b hb=>by rw [← hb];exact there_iff p t
 generalize hb:p.there t=b at *
 have hth:=hth b rfl
 have hfalse:b=false ↔ ¬ t.pc<(p.acts t.body).length:=by rw [← hth];cases b<;>simp
 simp only [formOkI,stageOkI,timesOk,posOk,inR,Bool.and_eq_true,decide_eq_true_eq,hb]
 constructor
 ·rintro ⟨h1,h2,h3,h4⟩
  by_cases e0:t.stage=0
  ·simp [e0] at h2 ⊢
   refine⟨by omega,by omega,by omega,h1.1.1.1.1.1.2,h1.1.1.1.1.2,h1.1.2,h1.2,⟨by omega,by simp [h2]⟩,⟨⟨by omega,by omega⟩,by omega⟩,h3,fun hw=>?_⟩
   have:=hfalse.1 (h4 hw)
   omega
  ·simp only [if_neg e0] at h2
   split at h2
   ·rename_i hc
    obtain⟨hw,ht,hk⟩:=hc
    have hne:∀ x:Int,x=1∨x=2→t.way≠x:=by rintro x (rfl | rfl)<;>omega
    by_cases e1:t.stage=1
    ·simp [e1] at h2 ⊢
     refine⟨by omega,by omega,by omega,by omega,h1.1.1.1.1.1.2,h1.1.1.1.1.2,h1.1.2,h1.2,⟨⟨by omega,by omega⟩,by omega⟩,fun _=>⟨ht,hk,by omega⟩,by omega,by omega⟩
    ·by_cases e2:t.stage=2
     ·simp [e2] at h2 ⊢
      refine⟨by omega,by omega,by omega,by omega,h1.1.1.1.1.1.2,h1.1.1.1.1.2,h1.1.2,h1.2,⟨⟨by omega,by omega⟩,by omega⟩,fun _=>⟨ht,hk,by omega⟩,by omega,by omega⟩
     ·by_cases e3:t.stage=3
      ·simp [e3] at h2 ⊢
       refine⟨by omega,by omega,by omega,by omega,h1.1.1.1.1.1.2,h1.1.1.1.1.2,h1.1.2,h1.2,⟨⟨by omega,by omega⟩,by omega⟩,fun _=>⟨ht,hk,by omega,by omega⟩,by omega,by omega⟩
      ·by_cases e4:t.stage=4
       ·simp [e4] at h2 ⊢
        refine⟨by omega,by omega,by omega,by omega,h1.1.1.1.1.1.2,h1.1.1.1.1.2,h1.1.2,h1.2,⟨⟨by omega,by omega⟩,by omega⟩,fun _=>⟨ht,hk,by omega,by omega⟩,by omega,by omega⟩
       ·by_cases e5:t.stage=5
        ·simp [e5] at h2 ⊢
         refine⟨by omega,by omega,by omega,by omega,h1.1.1.1.1.1.2,h1.1.1.1.1.2,h1.1.2,h1.2,⟨⟨by omega,by omega⟩,by omega⟩,fun _=>⟨ht,hk,by omega⟩,by omega,by omega⟩
        ·simp [e1,e2,e3,e4,e5] at h2
   ·simp at h2
 ·rintro ⟨g1,g2,g3,g4,g5,g6,g7,g8,g9,g10,g11,g12,g13,g14⟩
  refine⟨?_,?_,g13,fun hw=>by rw [hfalse];have:=g14 hw;omega⟩
  ·refine⟨⟨⟨⟨⟨⟨⟨⟨?_,?_⟩,?_⟩,g6⟩,g7⟩,?_⟩,?_⟩,g8⟩,g9⟩<;>omega
  ·by_cases e0:t.stage=0
   ·simp [e0] at g11 ⊢
    have g:=g10.resolve_left (fun h=>h e0)
    refine⟨⟨⟨g.1,?_⟩,?_⟩,g11.2⟩<;>(apply List.eq_nil_of_length_eq_zero;omega)
   ·have hw:t.way=0:=by omega
    obtain⟨ht,hk,hp⟩:b=true∧(p.act t).kind=1∧_:=by
     rcases g12 hw with h | h
     ·exact absurd h e0
     ·exact h
    simp only [if_neg e0]
    rw [if_pos ⟨hw,ht,hk⟩]
    have hs:t.stage=1∨t.stage=2∨t.stage=3∨t.stage=4∨t.stage=5:=by omega
    rcases hs with e | e | e | e | e<;>simp [e] at hp g11 ⊢<;>omega
end Go.Proofs.YtjacjafmimgfcaaGreat
namespace Go.Proofs.YtjacjafmimgfcaaGreat
def hasAll (cells:List Int) (l:List Put):Bool:=l.all fun x=>inR x.cell 0 ((cells.length:Int)-1) && decide (rdI cells x.cell=x.num)
def put1 (cells:List Int) (x:Put):List Int:=if inR x.cell 0 ((cells.length:Int)-1) then cells.set x.cell.toNat x.num else cells
def putAll (cells:List Int) (l:List Put):List Int:=l.foldl put1 cells
def entryDeeds (p:Prog) (s:Sys) (e:Entry):Option (List Deed) :=
 if inR e.task 0 ((s.tasks.length:Int)-1) then
  (if inR e.act 0 (((p.acts (s.t e.task.toNat).body).length:Int)-1) && decide (((p.acts (s.t e.task.toNat).body).getD e.act.toNat noAct).kind=1)
   then some ((p.acts (s.t e.task.toNat).body).getD e.act.toNat noAct).deeds else none)
 else none
def logDo1 (p:Prog) (s:Sys) (cr:List Int × List (List Int)) (e:Entry):Option (List Int × List (List Int)) :=
 match entryDeeds p s e with
 | none=>none
 | some ds =>
  match changeDo cr.1 (cr.2.getD e.task.toNat []) ds with
  | none=>none
  | some x=>if hasAll cr.1 e.reads && decide (x.1=putAll cr.1 e.puts) then some (x.1,cr.2.set e.task.toNat x.2) else none
def logDos (p:Prog) (s:Sys):List Int × List (List Int)→List Entry→Option (List Int × List (List Int))
 | cr,[]=>some cr
 | cr,e :: r=>match logDo1 p s cr e with | none=>none | some cr'=>logDos p s cr' r
def logDo (p:Prog) (s:Sys) (l:List Entry):Option (List Int × List (List Int)) :=
 if sysOk p s then logDos p s (p.cells,List.replicate s.tasks.length [0,0,0]) l else none
def replay:List Int→List Entry→Option (List Int)
 | c,[]=>some c
 | c,e :: r=>if hasAll c e.reads then replay (putAll c e.puts) r else none
/-! ### Lemmas -/
theorem put1_len (c:List Int)(x:Put):(put1 c x).length=c.length:=by unfold put1;split<;>simp
theorem putAll_len (l:List Put):∀ c:List Int,(putAll c l).length=c.length:=by
 induction l with
 | nil=>intro c;rfl
 | cons x r ih=>intro c;unfold putAll;rw [List.foldl_cons];exact(ih _).trans (put1_len c x)
theorem putAll_snoc (c:List Int)(l:List Put)(k:Nat)(h:k<l.length):putAll c (l.take (k+1))=put1 (putAll c (l.take k)) l[k]:=by
 unfold putAll;rw [List.take_succ_eq_append_getElem h,List.foldl_append];rfl
theorem logDos_snoc (p:Prog)(s:Sys):∀ (l:List Entry)(cr:List Int × List (List Int))(k:Nat)(h:k<l.length),logDos p s cr (l.take (k+1))=(logDos p s cr (l.take k)).bind fun x=>logDo1 p s x l[k]:=by
 intro l
 induction l with
 | nil=>intro cr k h;simp at h
 | cons e r ih =>
  intro cr k h
  cases k with
  | zero=>simp only [List.take_succ_cons,List.take_zero,logDos,List.getElem_cons_zero,Option.bind_some];cases logDo1 p s cr e<;>rfl
  | succ k =>
   simp only [List.take_succ_cons,logDos,List.getElem_cons_succ]
   cases logDo1 p s cr e with
   | none=>rfl
   | some x=>exact ih x k (by simpa using h)
theorem logDos_none (p:Prog)(s:Sys):∀ (l:List Entry)(cr:List Int × List (List Int))(k:Nat),logDos p s cr (l.take k)=none→logDos p s cr l=none:=by
 intro l
 induction l with
 | nil=>intro cr k h;simp [logDos] at h
 | cons e r ih =>
  intro cr k h
  cases k with
  | zero=>simp [logDos] at h
  | succ k =>
   simp only [List.take_succ_cons,logDos] at h ⊢
   cases hx:logDo1 p s cr e with
   | none=>rfl
   | some x=>rw [hx] at h;exact ih x k h
theorem logDos_stop (p:Prog)(s:Sys)(l:List Entry)(cr x:List Int × List (List Int))(k:Nat)(h:k<l.length)(h1:logDos p s cr (l.take k)=some x)(h2:logDo1 p s x l[k]=none):logDos p s cr l=none :=
 logDos_none p s l cr (k+1) (by rw [logDos_snoc p s l cr k h,h1];exact h2)
theorem logDos_next (p:Prog)(s:Sys)(l:List Entry)(cr x y:List Int × List (List Int))(k:Nat)(h:k<l.length)(h1:logDos p s cr (l.take k)=some x)(h2:logDo1 p s x l[k]=some y):logDos p s cr (l.take (k+1))=some y:=by
 rw [logDos_snoc p s l cr k h,h1];exact h2
theorem replay_none:∀ (l:List Entry)(c:List Int)(k:Nat),replay c (l.take k)=none→replay c l=none:=by
 intro l
 induction l with
 | nil=>intro c k h;simp [replay] at h
 | cons e r ih =>
  intro c k h
  cases k with
  | zero=>simp [replay] at h
  | succ k =>
   simp only [List.take_succ_cons,replay] at h ⊢
   split
   ·rename_i hh;rw [if_pos hh] at h;exact ih _ k h
   ·rfl
theorem replay_snoc:∀ (l:List Entry)(c:List Int)(k:Nat)(h:k<l.length),replay c (l.take (k+1))=(replay c (l.take k)).bind fun x=>if hasAll x l[k].reads then some (putAll x l[k].puts) else none:=by
 intro l
 induction l with
 | nil=>intro c k h;simp at h
 | cons e r ih =>
  intro c k h
  cases k with
  | zero=>simp only [List.take_succ_cons,List.take_zero,replay,List.getElem_cons_zero,Option.bind_some]
  | succ k =>
   simp only [List.take_succ_cons,replay,List.getElem_cons_succ]
   split
   ·exact ih _ k (by simpa using h)
   ·rfl
end Go.Proofs.YtjacjafmimgfcaaGreat
