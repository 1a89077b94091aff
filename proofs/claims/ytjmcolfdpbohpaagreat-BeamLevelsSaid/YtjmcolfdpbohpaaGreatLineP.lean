/- A part of a proof about the given program: what its name says. No premise beyond the statements'. -/
import Derived.Test.YtjmcolfdpbohpaaGreatFC
set_option linter.unusedSimpArgs false
set_option linter.unusedVariables false
/- Lines: events, tuplets, verses, as values; columns; read by their types. -/
namespace Go.AM.LineP
open Go.AM
noncomputable section
structure Pt where
  s : Int
  a : Int
  o : Int
def Pt.e (p : Pt) : List AV := [.int .i64 p.s, .int .i64 p.a, .int .i64 p.o]
structure Ev where
  k : Int
  at_ : Int
  on : Int
  od : Int
  ln : Int
  ld : Int
  lg : Int
  dt : Int
  ps : List Pt
  ti : Bool
  op : Int
  sh : Int
  lo : ByteArray
  tp : List Int
  gr : Int
  n : Int
  m : Int
  cl : Int
def i1 (x : Int) : List AV := [.int .i64 x]
def Ev.e (x : Ev) : List AV := [.int .i64 x.k, .int .i64 x.at_, .int .i64 x.on, .int .i64 x.od, .int .i64 x.ln, .int .i64 x.ld, .int .i64 x.lg, .int .i64 x.dt, .tsl 3 (x.ps.map Pt.e), .bool x.ti, .int .i64 x.op, .int .i64 x.sh, .str x.lo, .tsl 1 (x.tp.map i1), .int .i64 x.gr, .int .i64 x.n, .int .i64 x.m, .int .i64 x.cl]
structure Tu where
  f : Int
  l : Int
  n : Int
  m : Int
def Tu.e (x : Tu) : List AV := [.int .i64 x.f, .int .i64 x.l, .int .i64 x.n, .int .i64 x.m]
structure Sy where
  at_ : Int
  tx : ByteArray
  hy : Bool
  li : Bool
def Sy.e (x : Sy) : List AV := [.int .i64 x.at_, .str x.tx, .bool x.hy, .bool x.li]
def vsE (l : List Sy) : List AV := [.tsl 4 (l.map Sy.e)]
structure Ln where
  st : Int
  vo : Int
  ev : List Ev
  tu : List Tu
  en : Int
  ed : Int
  vs : List (List Sy)
def Ln.e (x : Ln) : List AV := [.int .i64 x.st, .int .i64 x.vo, .tsl 18 (x.ev.map Ev.e), .tsl 4 (x.tu.map Tu.e), .int .i64 x.en, .int .i64 x.ed, .tsl 1 (x.vs.map vsE)]
structure Rf where
  l : Int
  e : Int
  deriving DecidableEq
def Rf.v (x : Rf) : List AV := [.int .i64 x.l, .int .i64 x.e]
structure Cl where
  ch : Bool
  n : Int
  d : Int
  b : Int
  r : List Rf
def Cl.e (c : Cl) : List AV := [.bool c.ch, .int .i64 c.n, .int .i64 c.d, .int .i64 c.b, .tsl 2 (c.r.map Rf.v)]
structure Sp where
  x : Int
  y : Int
  h : Int
def Sp.e (x : Sp) : List AV := [.int .i64 x.x, .int .i64 x.y, .int .i64 x.h]
theorem pure_map {α : Type} {f : α → List AV} (h : ∀ x, pureL (f x) = true) : ∀ l : List α, pureR (l.map f) = true
  | [] => rfl
  | x :: l => by simp [pureR, h x, pure_map h l]
theorem pure_pt (l : List Pt) : pureR (l.map Pt.e) = true := pure_map (fun x => by simp [Pt.e, pureL, AV.pure]) l
theorem pure_i1 (l : List Int) : pureR (l.map i1) = true := pure_map (fun x => by simp [i1, pureL, AV.pure]) l
theorem pure_ev (l : List Ev) : pureR (l.map Ev.e) = true := pure_map (fun x => by simp [Ev.e, pureL, AV.pure, pure_pt, pure_i1]) l
theorem pure_tu (l : List Tu) : pureR (l.map Tu.e) = true := pure_map (fun x => by simp [Tu.e, pureL, AV.pure]) l
theorem pure_sy (l : List Sy) : pureR (l.map Sy.e) = true := pure_map (fun x => by simp [Sy.e, pureL, AV.pure]) l
theorem pure_vs (l : List (List Sy)) : pureR (l.map vsE) = true := pure_map (fun x => by simp [vsE, pureL, AV.pure, pure_sy]) l
theorem pureL_ln (x : Ln) : pureL x.e = true := by simp [Ln.e, pureL, AV.pure, pure_ev, pure_tu, pure_vs]
theorem pure_ln (l : List Ln) : pureR (l.map Ln.e) = true := pure_map pureL_ln l
theorem pure_rf (l : List Rf) : pureR (l.map Rf.v) = true := pure_map (fun x => by simp [Rf.v, pureL, AV.pure]) l
theorem pureL_cl (x : Cl) : pureL x.e = true := by simp [Cl.e, pureL, AV.pure, pure_rf]
theorem pure_cl (l : List Cl) : pureR (l.map Cl.e) = true := pure_map pureL_cl l
abbrev inR (x : Int) : Prop := -9223372036854775808 ≤ x ∧ x ≤ 9223372036854775807
abbrev Pt.wt (p : Pt) : Prop := inR p.s ∧ inR p.a ∧ inR p.o ∧ True
abbrev Ev.wt (x : Ev) : Prop := inR x.k ∧ inR x.at_ ∧ inR x.on ∧ inR x.od ∧ inR x.ln ∧ inR x.ld ∧ inR x.lg ∧ inR x.dt ∧ (∀ z ∈ x.ps, Pt.wt z) ∧ True ∧ inR x.op ∧ inR x.sh ∧ True ∧ (∀ z ∈ x.tp, inR z) ∧ inR x.gr ∧ inR x.n ∧ inR x.m ∧ inR x.cl ∧ True
abbrev Tu.wt (x : Tu) : Prop := inR x.f ∧ inR x.l ∧ inR x.n ∧ inR x.m ∧ True
abbrev Sy.wt (x : Sy) : Prop := inR x.at_ ∧ True ∧ True ∧ True ∧ True
abbrev Ln.wt (x : Ln) : Prop := inR x.st ∧ inR x.vo ∧ (∀ z ∈ x.ev, Ev.wt z) ∧ (∀ z ∈ x.tu, Tu.wt z) ∧ inR x.en ∧ inR x.ed ∧ (∀ z ∈ x.vs, ∀ y ∈ z, Sy.wt y) ∧ True
abbrev Rf.wt (x : Rf) : Prop := inR x.l ∧ inR x.e ∧ True
abbrev Cl.wt (x : Cl) : Prop := True ∧ inR x.n ∧ inR x.d ∧ inR x.b ∧ (∀ z ∈ x.r, Rf.wt z) ∧ True
abbrev Sp.wt (x : Sp) : Prop := inR x.x ∧ inR x.y ∧ inR x.h ∧ True
structure Bm where
  l : Int
  e : List Int
def Bm.e' (x : Bm) : List AV := [.int .i64 x.l, .tsl 1 (x.e.map i1)]
abbrev Bm.wt (x : Bm) : Prop := inR x.l ∧ (∀ z ∈ x.e, inR z) ∧ True
theorem pureL_bm (x : Bm) : pureL x.e' = true := by simp [Bm.e', pureL, AV.pure, pure_i1]
theorem pure_bm (l : List Bm) : pureR (l.map Bm.e') = true := pure_map pureL_bm l
end
end Go.AM.LineP
