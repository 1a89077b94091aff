/- A part of a proof about the given program: what its name says. No premise beyond the statements'. -/
import Derived.Test.YtejmalikojmmgaaGreatClClD
import Derived.Test.YtejmalikojmmgaaGreatProg
import Derived.KernelRfl
set_option linter.unusedSimpArgs false
set_option linter.unusedVariables false
/- The types of lines, read by their numbers. -/
namespace Go.AM.Cl
open Go.AM
open Go.AM.LineP
open Go.Proofs.Tryz
theorem ty_c4 : prog.cellsOf 4 = 1 := by kernel_rfl
theorem rd4 {n : Nat} {cs : List AV} (h : wtV prog n 4 cs) : ∃ x : Bool, cs = [.bool x] ∧ True := by
  obtain ⟨x, hx⟩ := wtV_bool underlying4 h
  exact ⟨x, hx, trivial⟩
theorem ty_c3 : prog.cellsOf 3 = 1 := by kernel_rfl
theorem rd3 {n : Nat} {cs : List AV} (h : wtV prog n 3 cs) : ∃ x : Int, cs = [.int .i64 x] ∧ inR x := by
  obtain ⟨x, hx, hb⟩ := wtV_int underlying3 h
  exact ⟨x, hx, hb⟩
theorem ty_c25 : prog.cellsOf 25 = 2 := by kernel_rfl
theorem ty_len2 {cs : List AV} (h : cs.length = 2) : ∃ a0 a1, cs = [a0, a1] := by
  obtain _ | ⟨a0, cs⟩ := cs <;> simp only [List.length_cons, List.length_nil] at h <;> (try omega)
  obtain _ | ⟨a1, cs⟩ := cs <;> simp only [List.length_cons, List.length_nil] at h <;> (try omega)
  obtain _ | ⟨z, cs⟩ := cs <;> simp only [List.length_cons, List.length_nil] at h <;> (try omega)
  exact ⟨_, _, rfl⟩
set_option maxRecDepth 100000 in
theorem rd25 {n : Nat} {cs : List AV} (h : wtV prog n 25 cs) : ∃ (x0 : Int) (x1 : Int), cs = [.int .i64 x0, .int .i64 x1] ∧ inR x0 ∧ inR x1 ∧ True := by
  obtain ⟨m, h1, h2⟩ := wtV_struct underlying25 h
  rw [ty_c25] at h1
  obtain ⟨a0, a1, rfl⟩ := ty_len2 h1
  simp only [List.forall_mem_cons, List.not_mem_nil, ty_c3] at h2
  simp at h2
  obtain ⟨k0, k1⟩ := h2
  obtain ⟨x0, e0, w0⟩ := rd3 k0
  cases e0
  obtain ⟨x1, e1, w1⟩ := rd3 k1
  cases e1
  exact ⟨x0, x1, rfl, w0, w1, trivial⟩
theorem ty_c56 : prog.cellsOf 56 = 2 := by kernel_rfl
set_option maxRecDepth 100000 in
theorem rd56 {n : Nat} {cs : List AV} (h : wtV prog n 56 cs) : ∃ x : Rf, cs = Rf.v x ∧ Rf.wt x := by
  obtain ⟨m, h1, h2⟩ := wtV_struct underlying56 h
  rw [ty_c56] at h1
  obtain ⟨a0, a1, rfl⟩ := ty_len2 h1
  simp only [List.forall_mem_cons, List.not_mem_nil, ty_c3] at h2
  simp at h2
  obtain ⟨k0, k1⟩ := h2
  obtain ⟨x0, e0, w0⟩ := rd3 k0
  cases e0
  obtain ⟨x1, e1, w1⟩ := rd3 k1
  cases e1
  exact ⟨⟨x0, x1⟩, rfl, w0, w1, trivial⟩
theorem ty_c32 : prog.cellsOf 32 = 1 := by kernel_rfl
set_option maxRecDepth 100000 in
theorem rd32 {n : Nat} {cs : List AV} (h : wtV prog n 32 cs) : ∃ l : List Rf, cs = [.tsl 2 (l.map Rf.v)] ∧ (∀ z ∈ l, Rf.wt z) := by
  obtain ⟨m, es, h1, h2, h3⟩ := wtV_slice underlying32 ty_c56 (by decide) h
  obtain ⟨rs, rfl, hc⟩ := map_of (f := Rf.v) (C := Rf.wt) (es := es) fun x hx => by
    obtain ⟨z, hz, hw⟩ := rd56 (h3 x hx).2
    exact ⟨z, hz, hw⟩
  exact ⟨rs, h1, hc⟩
theorem ty_c35 : prog.cellsOf 35 = 5 := by kernel_rfl
theorem ty_len5 {cs : List AV} (h : cs.length = 5) : ∃ a0 a1 a2 a3 a4, cs = [a0, a1, a2, a3, a4] := by
  obtain _ | ⟨a0, cs⟩ := cs <;> simp only [List.length_cons, List.length_nil] at h <;> (try omega)
  obtain _ | ⟨a1, cs⟩ := cs <;> simp only [List.length_cons, List.length_nil] at h <;> (try omega)
  obtain _ | ⟨a2, cs⟩ := cs <;> simp only [List.length_cons, List.length_nil] at h <;> (try omega)
  obtain _ | ⟨a3, cs⟩ := cs <;> simp only [List.length_cons, List.length_nil] at h <;> (try omega)
  obtain _ | ⟨a4, cs⟩ := cs <;> simp only [List.length_cons, List.length_nil] at h <;> (try omega)
  obtain _ | ⟨z, cs⟩ := cs <;> simp only [List.length_cons, List.length_nil] at h <;> (try omega)
  exact ⟨_, _, _, _, _, rfl⟩
set_option maxRecDepth 100000 in
theorem rd35 {n : Nat} {cs : List AV} (h : wtV prog n 35 cs) : ∃ x : Cl, cs = Cl.e x ∧ Cl.wt x := by
  obtain ⟨m, h1, h2⟩ := wtV_struct underlying35 h
  rw [ty_c35] at h1
  obtain ⟨a0, a1, a2, a3, a4, rfl⟩ := ty_len5 h1
  simp only [List.forall_mem_cons, List.not_mem_nil, ty_c3, ty_c4, ty_c25, ty_c32] at h2
  simp at h2
  obtain ⟨k0, k1, k2, k3⟩ := h2
  obtain ⟨x0, e0, w0⟩ := rd4 k0
  cases e0
  obtain ⟨x1, x2, e1, w1, w2, _⟩ := rd25 k1
  cases e1
  obtain ⟨x3, e2, w3⟩ := rd3 k2
  cases e2
  obtain ⟨x4, e3, w4⟩ := rd32 k3
  cases e3
  exact ⟨⟨x0, x1, x2, x3, x4⟩, rfl, w0, w1, w2, w3, w4, trivial⟩
theorem ty_c22 : prog.cellsOf 22 = 1 := by kernel_rfl
set_option maxRecDepth 100000 in
theorem rd22 {n : Nat} {cs : List AV} (h : wtV prog n 22 cs) : ∃ l : List Cl, cs = [.tsl 5 (l.map Cl.e)] ∧ (∀ z ∈ l, Cl.wt z) := by
  obtain ⟨m, es, h1, h2, h3⟩ := wtV_slice underlying22 ty_c35 (by decide) h
  obtain ⟨rs, rfl, hc⟩ := map_of (f := Cl.e) (C := Cl.wt) (es := es) fun x hx => by
    obtain ⟨z, hz, hw⟩ := rd35 (h3 x hx).2
    exact ⟨z, hz, hw⟩
  exact ⟨rs, h1, hc⟩
theorem ty_c61 : prog.cellsOf 61 = 2 := by kernel_rfl
set_option maxRecDepth 100000 in
theorem rd61 {n : Nat} {cs : List AV} (h : wtV prog n 61 cs) : ∃ (x0 : Int) (x1 : Int), cs = [.int .i64 x0, .int .i64 x1] ∧ inR x0 ∧ inR x1 ∧ True := by
  obtain ⟨m, h1, h2⟩ := wtV_struct underlying61 h
  rw [ty_c61] at h1
  obtain ⟨a0, a1, rfl⟩ := ty_len2 h1
  simp only [List.forall_mem_cons, List.not_mem_nil, ty_c3] at h2
  simp at h2
  obtain ⟨k0, k1⟩ := h2
  obtain ⟨x0, e0, w0⟩ := rd3 k0
  cases e0
  obtain ⟨x1, e1, w1⟩ := rd3 k1
  cases e1
  exact ⟨x0, x1, rfl, w0, w1, trivial⟩
theorem ty_c120 : prog.cellsOf 120 = 3 := by kernel_rfl
theorem ty_len3 {cs : List AV} (h : cs.length = 3) : ∃ a0 a1 a2, cs = [a0, a1, a2] := by
  obtain _ | ⟨a0, cs⟩ := cs <;> simp only [List.length_cons, List.length_nil] at h <;> (try omega)
  obtain _ | ⟨a1, cs⟩ := cs <;> simp only [List.length_cons, List.length_nil] at h <;> (try omega)
  obtain _ | ⟨a2, cs⟩ := cs <;> simp only [List.length_cons, List.length_nil] at h <;> (try omega)
  obtain _ | ⟨z, cs⟩ := cs <;> simp only [List.length_cons, List.length_nil] at h <;> (try omega)
  exact ⟨_, _, _, rfl⟩
set_option maxRecDepth 100000 in
theorem rd120 {n : Nat} {cs : List AV} (h : wtV prog n 120 cs) : ∃ x : Pt, cs = Pt.e x ∧ Pt.wt x := by
  obtain ⟨m, h1, h2⟩ := wtV_struct underlying120 h
  rw [ty_c120] at h1
  obtain ⟨a0, a1, a2, rfl⟩ := ty_len3 h1
  simp only [List.forall_mem_cons, List.not_mem_nil, ty_c3] at h2
  simp at h2
  obtain ⟨k0, k1, k2⟩ := h2
  obtain ⟨x0, e0, w0⟩ := rd3 k0
  cases e0
  obtain ⟨x1, e1, w1⟩ := rd3 k1
  cases e1
  obtain ⟨x2, e2, w2⟩ := rd3 k2
  cases e2
  exact ⟨⟨x0, x1, x2⟩, rfl, w0, w1, w2, trivial⟩
theorem ty_c62 : prog.cellsOf 62 = 1 := by kernel_rfl
set_option maxRecDepth 100000 in
theorem rd62 {n : Nat} {cs : List AV} (h : wtV prog n 62 cs) : ∃ l : List Pt, cs = [.tsl 3 (l.map Pt.e)] ∧ (∀ z ∈ l, Pt.wt z) := by
  obtain ⟨m, es, h1, h2, h3⟩ := wtV_slice underlying62 ty_c120 (by decide) h
  obtain ⟨rs, rfl, hc⟩ := map_of (f := Pt.e) (C := Pt.wt) (es := es) fun x hx => by
    obtain ⟨z, hz, hw⟩ := rd120 (h3 x hx).2
    exact ⟨z, hz, hw⟩
  exact ⟨rs, h1, hc⟩
theorem ty_c9 : prog.cellsOf 9 = 1 := by kernel_rfl
theorem rd9 {n : Nat} {cs : List AV} (h : wtV prog n 9 cs) : ∃ x : ByteArray, cs = [.str x] ∧ True := by
  obtain ⟨x, hx, _⟩ := wtV_str underlying9 h
  exact ⟨x, hx, trivial⟩
theorem ty_c64 : prog.cellsOf 64 = 4 := by kernel_rfl
theorem ty_len4 {cs : List AV} (h : cs.length = 4) : ∃ a0 a1 a2 a3, cs = [a0, a1, a2, a3] := by
  obtain _ | ⟨a0, cs⟩ := cs <;> simp only [List.length_cons, List.length_nil] at h <;> (try omega)
  obtain _ | ⟨a1, cs⟩ := cs <;> simp only [List.length_cons, List.length_nil] at h <;> (try omega)
  obtain _ | ⟨a2, cs⟩ := cs <;> simp only [List.length_cons, List.length_nil] at h <;> (try omega)
  obtain _ | ⟨a3, cs⟩ := cs <;> simp only [List.length_cons, List.length_nil] at h <;> (try omega)
  obtain _ | ⟨z, cs⟩ := cs <;> simp only [List.length_cons, List.length_nil] at h <;> (try omega)
  exact ⟨_, _, _, _, rfl⟩
set_option maxRecDepth 100000 in
theorem rd64 {n : Nat} {cs : List AV} (h : wtV prog n 64 cs) : ∃ (x0 : Bool) (x1 : Int) (x2 : Int) (x3 : ByteArray), cs = [.bool x0, .int .i64 x1, .int .i64 x2, .str x3] ∧ True ∧ inR x1 ∧ inR x2 ∧ True ∧ True := by
  obtain ⟨m, h1, h2⟩ := wtV_struct underlying64 h
  rw [ty_c64] at h1
  obtain ⟨a0, a1, a2, a3, rfl⟩ := ty_len4 h1
  simp only [List.forall_mem_cons, List.not_mem_nil, ty_c3, ty_c4, ty_c9] at h2
  simp at h2
  obtain ⟨k0, k1, k2, k3⟩ := h2
  obtain ⟨x0, e0, w0⟩ := rd4 k0
  cases e0
  obtain ⟨x1, e1, w1⟩ := rd3 k1
  cases e1
  obtain ⟨x2, e2, w2⟩ := rd3 k2
  cases e2
  obtain ⟨x3, e3, w3⟩ := rd9 k3
  cases e3
  exact ⟨x0, x1, x2, x3, rfl, w0, w1, w2, w3, trivial⟩
theorem ty_c65 : prog.cellsOf 65 = 1 := by kernel_rfl
set_option maxRecDepth 100000 in
theorem rd65 {n : Nat} {cs : List AV} (h : wtV prog n 65 cs) : ∃ l : List Int, cs = [.tsl 1 (l.map i1)] ∧ (∀ z ∈ l, inR z) := by
  obtain ⟨m, es, h1, h2, h3⟩ := wtV_slice underlying65 ty_c3 (by decide) h
  obtain ⟨rs, rfl, hc⟩ := map_of (f := i1) (C := inR) (es := es) fun x hx => by
    obtain ⟨z, hz, hw⟩ := rd3 (h3 x hx).2
    exact ⟨z, hz, hw⟩
  exact ⟨rs, h1, hc⟩
theorem ty_c66 : prog.cellsOf 66 = 1 := by kernel_rfl
theorem rd66 {n : Nat} {cs : List AV} (h : wtV prog n 66 cs) : ∃ x : Int, cs = [.int .i64 x] ∧ inR x := by
  obtain ⟨x, hx, hb⟩ := wtV_int underlying66 h
  exact ⟨x, hx, hb⟩
theorem ty_c68 : prog.cellsOf 68 = 18 := by kernel_rfl
theorem ty_len18 {cs : List AV} (h : cs.length = 18) : ∃ a0 a1 a2 a3 a4 a5 a6 a7 a8 a9 a10 a11 a12 a13 a14 a15 a16 a17, cs = [a0, a1, a2, a3, a4, a5, a6, a7, a8, a9, a10, a11, a12, a13, a14, a15, a16, a17] := by
  obtain _ | ⟨a0, cs⟩ := cs <;> simp only [List.length_cons, List.length_nil] at h <;> (try omega)
  obtain _ | ⟨a1, cs⟩ := cs <;> simp only [List.length_cons, List.length_nil] at h <;> (try omega)
  obtain _ | ⟨a2, cs⟩ := cs <;> simp only [List.length_cons, List.length_nil] at h <;> (try omega)
  obtain _ | ⟨a3, cs⟩ := cs <;> simp only [List.length_cons, List.length_nil] at h <;> (try omega)
  obtain _ | ⟨a4, cs⟩ := cs <;> simp only [List.length_cons, List.length_nil] at h <;> (try omega)
  obtain _ | ⟨a5, cs⟩ := cs <;> simp only [List.length_cons, List.length_nil] at h <;> (try omega)
  obtain _ | ⟨a6, cs⟩ := cs <;> simp only [List.length_cons, List.length_nil] at h <;> (try omega)
  obtain _ | ⟨a7, cs⟩ := cs <;> simp only [List.length_cons, List.length_nil] at h <;> (try omega)
  obtain _ | ⟨a8, cs⟩ := cs <;> simp only [List.length_cons, List.length_nil] at h <;> (try omega)
  obtain _ | ⟨a9, cs⟩ := cs <;> simp only [List.length_cons, List.length_nil] at h <;> (try omega)
  obtain _ | ⟨a10, cs⟩ := cs <;> simp only [List.length_cons, List.length_nil] at h <;> (try omega)
  obtain _ | ⟨a11, cs⟩ := cs <;> simp only [List.length_cons, List.length_nil] at h <;> (try omega)
  obtain _ | ⟨a12, cs⟩ := cs <;> simp only [List.length_cons, List.length_nil] at h <;> (try omega)
  obtain _ | ⟨a13, cs⟩ := cs <;> simp only [List.length_cons, List.length_nil] at h <;> (try omega)
  obtain _ | ⟨a14, cs⟩ := cs <;> simp only [List.length_cons, List.length_nil] at h <;> (try omega)
  obtain _ | ⟨a15, cs⟩ := cs <;> simp only [List.length_cons, List.length_nil] at h <;> (try omega)
  obtain _ | ⟨a16, cs⟩ := cs <;> simp only [List.length_cons, List.length_nil] at h <;> (try omega)
  obtain _ | ⟨a17, cs⟩ := cs <;> simp only [List.length_cons, List.length_nil] at h <;> (try omega)
  obtain _ | ⟨z, cs⟩ := cs <;> simp only [List.length_cons, List.length_nil] at h <;> (try omega)
  exact ⟨_, _, _, _, _, _, _, _, _, _, _, _, _, _, _, _, _, _, rfl⟩
set_option maxRecDepth 100000 in
theorem rd68 {n : Nat} {cs : List AV} (h : wtV prog n 68 cs) : ∃ x : Ev, cs = Ev.e x ∧ Ev.wt x := by
  obtain ⟨m, h1, h2⟩ := wtV_struct underlying68 h
  rw [ty_c68] at h1
  obtain ⟨a0, a1, a2, a3, a4, a5, a6, a7, a8, a9, a10, a11, a12, a13, a14, a15, a16, a17, rfl⟩ := ty_len18 h1
  simp only [List.forall_mem_cons, List.not_mem_nil, ty_c3, ty_c25, ty_c61, ty_c62, ty_c64, ty_c65, ty_c66] at h2
  simp at h2
  obtain ⟨k0, k1, k2, k3, k4, k5, k6, k7, k8, k9, k10, k11⟩ := h2
  obtain ⟨x0, e0, w0⟩ := rd3 k0
  cases e0
  obtain ⟨x1, e1, w1⟩ := rd3 k1
  cases e1
  obtain ⟨x2, x3, e2, w2, w3, _⟩ := rd25 k2
  cases e2
  obtain ⟨x4, x5, e3, w4, w5, _⟩ := rd25 k3
  cases e3
  obtain ⟨x6, x7, e4, w6, w7, _⟩ := rd61 k4
  cases e4
  obtain ⟨x8, e5, w8⟩ := rd62 k5
  cases e5
  obtain ⟨x9, x10, x11, x12, e6, w9, w10, w11, w12, _⟩ := rd64 k6
  cases e6
  obtain ⟨x13, e7, w13⟩ := rd65 k7
  cases e7
  obtain ⟨x14, e8, w14⟩ := rd3 k8
  cases e8
  obtain ⟨x15, e9, w15⟩ := rd3 k9
  cases e9
  obtain ⟨x16, e10, w16⟩ := rd3 k10
  cases e10
  obtain ⟨x17, e11, w17⟩ := rd66 k11
  cases e11
  exact ⟨⟨x0, x1, x2, x3, x4, x5, x6, x7, x8, x9, x10, x11, x12, x13, x14, x15, x16, x17⟩, rfl, w0, w1, w2, w3, w4, w5, w6, w7, w8, w9, w10, w11, w12, w13, w14, w15, w16, w17, trivial⟩
theorem ty_c38 : prog.cellsOf 38 = 1 := by kernel_rfl
set_option maxRecDepth 100000 in
theorem rd38 {n : Nat} {cs : List AV} (h : wtV prog n 38 cs) : ∃ l : List Ev, cs = [.tsl 18 (l.map Ev.e)] ∧ (∀ z ∈ l, Ev.wt z) := by
  obtain ⟨m, es, h1, h2, h3⟩ := wtV_slice underlying38 ty_c68 (by decide) h
  obtain ⟨rs, rfl, hc⟩ := map_of (f := Ev.e) (C := Ev.wt) (es := es) fun x hx => by
    obtain ⟨z, hz, hw⟩ := rd68 (h3 x hx).2
    exact ⟨z, hz, hw⟩
  exact ⟨rs, h1, hc⟩
theorem ty_c212 : prog.cellsOf 212 = 4 := by kernel_rfl
set_option maxRecDepth 100000 in
theorem rd212 {n : Nat} {cs : List AV} (h : wtV prog n 212 cs) : ∃ x : Tu, cs = Tu.e x ∧ Tu.wt x := by
  obtain ⟨m, h1, h2⟩ := wtV_struct underlying212 h
  rw [ty_c212] at h1
  obtain ⟨a0, a1, a2, a3, rfl⟩ := ty_len4 h1
  simp only [List.forall_mem_cons, List.not_mem_nil, ty_c3] at h2
  simp at h2
  obtain ⟨k0, k1, k2, k3⟩ := h2
  obtain ⟨x0, e0, w0⟩ := rd3 k0
  cases e0
  obtain ⟨x1, e1, w1⟩ := rd3 k1
  cases e1
  obtain ⟨x2, e2, w2⟩ := rd3 k2
  cases e2
  obtain ⟨x3, e3, w3⟩ := rd3 k3
  cases e3
  exact ⟨⟨x0, x1, x2, x3⟩, rfl, w0, w1, w2, w3, trivial⟩
theorem ty_c39 : prog.cellsOf 39 = 1 := by kernel_rfl
set_option maxRecDepth 100000 in
theorem rd39 {n : Nat} {cs : List AV} (h : wtV prog n 39 cs) : ∃ l : List Tu, cs = [.tsl 4 (l.map Tu.e)] ∧ (∀ z ∈ l, Tu.wt z) := by
  obtain ⟨m, es, h1, h2, h3⟩ := wtV_slice underlying39 ty_c212 (by decide) h
  obtain ⟨rs, rfl, hc⟩ := map_of (f := Tu.e) (C := Tu.wt) (es := es) fun x hx => by
    obtain ⟨z, hz, hw⟩ := rd212 (h3 x hx).2
    exact ⟨z, hz, hw⟩
  exact ⟨rs, h1, hc⟩
theorem ty_c128 : prog.cellsOf 128 = 4 := by kernel_rfl
set_option maxRecDepth 100000 in
theorem rd128 {n : Nat} {cs : List AV} (h : wtV prog n 128 cs) : ∃ x : Sy, cs = Sy.e x ∧ Sy.wt x := by
  obtain ⟨m, h1, h2⟩ := wtV_struct underlying128 h
  rw [ty_c128] at h1
  obtain ⟨a0, a1, a2, a3, rfl⟩ := ty_len4 h1
  simp only [List.forall_mem_cons, List.not_mem_nil, ty_c3, ty_c4, ty_c9] at h2
  simp at h2
  obtain ⟨k0, k1, k2, k3⟩ := h2
  obtain ⟨x0, e0, w0⟩ := rd3 k0
  cases e0
  obtain ⟨x1, e1, w1⟩ := rd9 k1
  cases e1
  obtain ⟨x2, e2, w2⟩ := rd4 k2
  cases e2
  obtain ⟨x3, e3, w3⟩ := rd4 k3
  cases e3
  exact ⟨⟨x0, x1, x2, x3⟩, rfl, w0, w1, w2, w3, trivial⟩
theorem ty_c69 : prog.cellsOf 69 = 1 := by kernel_rfl
set_option maxRecDepth 100000 in
theorem rd69 {n : Nat} {cs : List AV} (h : wtV prog n 69 cs) : ∃ l : List Sy, cs = [.tsl 4 (l.map Sy.e)] ∧ (∀ z ∈ l, Sy.wt z) := by
  obtain ⟨m, es, h1, h2, h3⟩ := wtV_slice underlying69 ty_c128 (by decide) h
  obtain ⟨rs, rfl, hc⟩ := map_of (f := Sy.e) (C := Sy.wt) (es := es) fun x hx => by
    obtain ⟨z, hz, hw⟩ := rd128 (h3 x hx).2
    exact ⟨z, hz, hw⟩
  exact ⟨rs, h1, hc⟩
theorem ty_c40 : prog.cellsOf 40 = 1 := by kernel_rfl
set_option maxRecDepth 100000 in
theorem rd40 {n : Nat} {cs : List AV} (h : wtV prog n 40 cs) : ∃ l : List (List Sy), cs = [.tsl 1 (l.map vsE)] ∧ (∀ z ∈ l, ∀ y ∈ z, Sy.wt y) := by
  obtain ⟨m, es, h1, h2, h3⟩ := wtV_slice underlying40 ty_c69 (by decide) h
  obtain ⟨rs, rfl, hc⟩ := map_of (f := vsE) (C := fun z => ∀ y ∈ z, Sy.wt y) (es := es) fun x hx => by
    obtain ⟨z, hz, hw⟩ := rd69 (h3 x hx).2
    exact ⟨z, hz, hw⟩
  exact ⟨rs, h1, hc⟩
theorem ty_c42 : prog.cellsOf 42 = 7 := by kernel_rfl
theorem ty_len7 {cs : List AV} (h : cs.length = 7) : ∃ a0 a1 a2 a3 a4 a5 a6, cs = [a0, a1, a2, a3, a4, a5, a6] := by
  obtain _ | ⟨a0, cs⟩ := cs <;> simp only [List.length_cons, List.length_nil] at h <;> (try omega)
  obtain _ | ⟨a1, cs⟩ := cs <;> simp only [List.length_cons, List.length_nil] at h <;> (try omega)
  obtain _ | ⟨a2, cs⟩ := cs <;> simp only [List.length_cons, List.length_nil] at h <;> (try omega)
  obtain _ | ⟨a3, cs⟩ := cs <;> simp only [List.length_cons, List.length_nil] at h <;> (try omega)
  obtain _ | ⟨a4, cs⟩ := cs <;> simp only [List.length_cons, List.length_nil] at h <;> (try omega)
  obtain _ | ⟨a5, cs⟩ := cs <;> simp only [List.length_cons, List.length_nil] at h <;> (try omega)
  obtain _ | ⟨a6, cs⟩ := cs <;> simp only [List.length_cons, List.length_nil] at h <;> (try omega)
  obtain _ | ⟨z, cs⟩ := cs <;> simp only [List.length_cons, List.length_nil] at h <;> (try omega)
  exact ⟨_, _, _, _, _, _, _, rfl⟩
set_option maxRecDepth 100000 in
theorem rd42 {n : Nat} {cs : List AV} (h : wtV prog n 42 cs) : ∃ x : Ln, cs = Ln.e x ∧ Ln.wt x := by
  obtain ⟨m, h1, h2⟩ := wtV_struct underlying42 h
  rw [ty_c42] at h1
  obtain ⟨a0, a1, a2, a3, a4, a5, a6, rfl⟩ := ty_len7 h1
  simp only [List.forall_mem_cons, List.not_mem_nil, ty_c3, ty_c25, ty_c38, ty_c39, ty_c40] at h2
  simp at h2
  obtain ⟨k0, k1, k2, k3, k4, k5⟩ := h2
  obtain ⟨x0, e0, w0⟩ := rd3 k0
  cases e0
  obtain ⟨x1, e1, w1⟩ := rd3 k1
  cases e1
  obtain ⟨x2, e2, w2⟩ := rd38 k2
  cases e2
  obtain ⟨x3, e3, w3⟩ := rd39 k3
  cases e3
  obtain ⟨x4, x5, e4, w4, w5, _⟩ := rd25 k4
  cases e4
  obtain ⟨x6, e5, w6⟩ := rd40 k5
  cases e5
  exact ⟨⟨x0, x1, x2, x3, x4, x5, x6⟩, rfl, w0, w1, w2, w3, w4, w5, w6, trivial⟩
theorem ty_c23 : prog.cellsOf 23 = 1 := by kernel_rfl
set_option maxRecDepth 100000 in
theorem rd23 {n : Nat} {cs : List AV} (h : wtV prog n 23 cs) : ∃ l : List Ln, cs = [.tsl 7 (l.map Ln.e)] ∧ (∀ z ∈ l, Ln.wt z) := by
  obtain ⟨m, es, h1, h2, h3⟩ := wtV_slice underlying23 ty_c42 (by decide) h
  obtain ⟨rs, rfl, hc⟩ := map_of (f := Ln.e) (C := Ln.wt) (es := es) fun x hx => by
    obtain ⟨z, hz, hw⟩ := rd42 (h3 x hx).2
    exact ⟨z, hz, hw⟩
  exact ⟨rs, h1, hc⟩
end Go.AM.Cl
