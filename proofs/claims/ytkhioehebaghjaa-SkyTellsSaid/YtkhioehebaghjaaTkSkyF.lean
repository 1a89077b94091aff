/- A part of a proof about the given program: what its name says. No premise beyond the statements'. -/
import Derived.Test.YtkhioehebaghjaaTkSkyE
import Derived.Test.YtkhioehebaghjaaTO
import Derived.Test.YtkhioehebaghjaaTS
set_option linter.unusedSimpArgs false
set_option linter.unusedVariables false
/- The library's sort, in this program: numbers, and steps by where they begin. -/
namespace Go.AM.Sk
open Go.AM
open Go.AM.SkyP
def KI : Ord.SK:={ ag:=false,sz:=1,less:=64,srt:=39,pdq:=52,len:=53,len32:=67,len64:=68,ins:=58,heap:=59,brk:=60,piv:=61,rev:=62,par:=63,peq:=65,prt:=66,sift:=77,npo:=78,nxt:=79,madj:=80,med:=81,ord:=85 }
theorem laysI : Ord.Lays Go.Proofs.Try.prog KI:=⟨by kernel_rfl,by kernel_rfl,by kernel_rfl,by kernel_rfl,by kernel_rfl,by kernel_rfl,by kernel_rfl,by kernel_rfl,by kernel_rfl,by kernel_rfl,by kernel_rfl,by kernel_rfl,by kernel_rfl,by kernel_rfl,by kernel_rfl,by kernel_rfl,by kernel_rfl,by kernel_rfl⟩
def cmpIs : Ord.Cmp Go.Proofs.Try.prog KI Int:={ enc:=fun x => [.int .i64 x],val:=fun x => .int .i64 x,lt:=fun x y => decide (x < y),ld:=fun _ => rfl,st:=fun _ => rfl,sc:=fun _ => rfl,len:=fun _ => rfl,pu:=fun _ => rfl,pv:=fun _ => rfl,call:=fun x y => less_ok x y }
theorem swoI : Go.Sort.SWO cmpIs.lt:=⟨fun x => by simp [cmpIs],fun x y z h1 h2 => by simp [cmpIs] at *; omega,fun x y z h1 h2 => by simp [cmpIs] at *; omega⟩
theorem sortI_ok {H : Heap} {n b m : Nat} {d : Array Int} (hm : d.size = m) (hd : m < 65536) (hb : get H b = some (.rows 1 (Ord.rws cmpIs d))) :
    ACalls Go.Proofs.Try.prog 39 [.sl 1 b 0 m] H n (postO n (.tup []) (ins b (.rows 1 (Ord.rws cmpIs (Go.Sort.sort cmpIs.lt d))) H)):=Ord.srt_ok laysI cmpIs swoI hm hd hb
def KS : SK:={ ag:=true,sz:=3,srt:=42,pdq:=54,len:=53,len32:=67,len64:=68,ins:=69,heap:=70,brk:=71,piv:=72,rev:=73,par:=74,peq:=75,prt:=76,sift:=82,npo:=78,nxt:=79,madj:=83,med:=84,ord:=86 }
theorem laysS : Lays Go.Proofs.Try.prog KS:=⟨by kernel_rfl,by kernel_rfl,by kernel_rfl,by kernel_rfl,by kernel_rfl,by kernel_rfl,by kernel_rfl,by kernel_rfl,by kernel_rfl,by kernel_rfl,by kernel_rfl,by kernel_rfl,by kernel_rfl,by kernel_rfl,by kernel_rfl,by kernel_rfl,by kernel_rfl,by kernel_rfl⟩
instance : Inhabited St:=⟨⟨0,0,0⟩⟩
def cmpSt : Cmp Go.Proofs.Try.prog KS St:={ enc:=St.e,val:=fun s => .agg s.e,g:=43,first:=[],caps:=[],c:=fun a b => cmpI a.x0 b.x0,ld:=fun _ => rfl,st:=fun _ => rfl,sc:=fun _ => rfl,len:=fun _ => rfl,pu:=fun _ => rfl,pv:=fun _ => rfl,pf:=rfl,pc:=rfl,call:=fun x y => lit1_ok x y }
theorem cmpI_lt (a b : Int) : cmpI a b < 0 ↔ a < b:=by
  unfold cmpI
  (repeat' split) <;> omega
theorem ltS (a b : St) : cmpSt.lt a b = decide (a.x0 < b.x0):=by
  simp only [Cmp.lt,cmpSt]
  congr 1
  exact propext (cmpI_lt _ _)
theorem swoS : Go.Sort.SWO cmpSt.lt:=⟨fun x => by simp [ltS],fun x y z h1 h2 => by simp [ltS] at *; omega,fun x y z h1 h2 => by simp [ltS] at *; omega⟩
theorem sortS_ok {H : Heap} {n b m : Nat} {d : Array St} (hm : d.size = m) (hd : m < 65536) (hb : get H b = some (.rows 3 (rws cmpSt d))) :
    ACalls Go.Proofs.Try.prog 42 [.sl 3 b 0 m,.fn 43 [] []] H n (postO n (.tup []) (ins b (.rows 3 (rws cmpSt (Go.Sort.sort cmpSt.lt d))) H)):=srt_ok laysS cmpSt swoS hm hd hb
end Go.AM.Sk
