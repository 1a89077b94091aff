/- A part of a proof about the given program: what its name says. No premise beyond the statements'. -/
import Derived.Test.YtjmcolfdpbohpaaGreatBmBmC
import Derived.Test.YtjmcolfdpbohpaaGreatLineP
import Derived.Test.YtjmcolfdpbohpaaGreatProg
import Derived.KernelRfl
set_option linter.unusedSimpArgs false
set_option linter.unusedVariables false
/- The types of lines, read by their numbers. -/
namespace Go.AM.Bm
open Go.AM
open Go.AM.LineP
open Go.Proofs.Tryz
theorem ty_c3 : prog.cellsOf 3 = 1 := by kernel_rfl
theorem rd3 {n : Nat} {cs : List AV} (h : wtV prog n 3 cs) : ∃ x : Int, cs = [.int .i64 x] ∧ inR x := by
  obtain ⟨x, hx, hb⟩ := wtV_int underlying3 h
  exact ⟨x, hx, hb⟩
theorem ty_c26 : prog.cellsOf 26 = 1 := by kernel_rfl
set_option maxRecDepth 100000 in
theorem rd26 {n : Nat} {cs : List AV} (h : wtV prog n 26 cs) : ∃ l : List Int, cs = [.tsl 1 (l.map i1)] ∧ (∀ z ∈ l, inR z) := by
  obtain ⟨m, es, h1, h2, h3⟩ := wtV_slice underlying26 ty_c3 (by decide) h
  obtain ⟨rs, rfl, hc⟩ := map_of (f := i1) (C := inR) (es := es) fun x hx => by
    obtain ⟨z, hz, hw⟩ := rd3 (h3 x hx).2
    exact ⟨z, hz, hw⟩
  exact ⟨rs, h1, hc⟩
theorem ty_c33 : prog.cellsOf 33 = 2 := by kernel_rfl
theorem ty_len2 {cs : List AV} (h : cs.length = 2) : ∃ a0 a1, cs = [a0, a1] := by
  obtain _ | ⟨a0, cs⟩ := cs <;> simp only [List.length_cons, List.length_nil] at h <;> (try omega)
  obtain _ | ⟨a1, cs⟩ := cs <;> simp only [List.length_cons, List.length_nil] at h <;> (try omega)
  obtain _ | ⟨z, cs⟩ := cs <;> simp only [List.length_cons, List.length_nil] at h <;> (try omega)
  exact ⟨_, _, rfl⟩
set_option maxRecDepth 100000 in
theorem rd33 {n : Nat} {cs : List AV} (h : wtV prog n 33 cs) : ∃ x : Bm, cs = Bm.e' x ∧ Bm.wt x := by
  obtain ⟨m, h1, h2⟩ := wtV_struct underlying33 h
  rw [ty_c33] at h1
  obtain ⟨a0, a1, rfl⟩ := ty_len2 h1
  simp only [List.forall_mem_cons, List.not_mem_nil, ty_c3, ty_c26] at h2
  simp at h2
  obtain ⟨k0, k1⟩ := h2
  obtain ⟨x0, e0, w0⟩ := rd3 k0
  cases e0
  obtain ⟨x1, e1, w1⟩ := rd26 k1
  cases e1
  exact ⟨⟨x0, x1⟩, rfl, w0, w1, trivial⟩
theorem ty_c22 : prog.cellsOf 22 = 1 := by kernel_rfl
set_option maxRecDepth 100000 in
theorem rd22 {n : Nat} {cs : List AV} (h : wtV prog n 22 cs) : ∃ l : List Bm, cs = [.tsl 2 (l.map Bm.e')] ∧ (∀ z ∈ l, Bm.wt z) := by
  obtain ⟨m, es, h1, h2, h3⟩ := wtV_slice underlying22 ty_c33 (by decide) h
  obtain ⟨rs, rfl, hc⟩ := map_of (f := Bm.e') (C := Bm.wt) (es := es) fun x hx => by
    obtain ⟨z, hz, hw⟩ := rd33 (h3 x hx).2
    exact ⟨z, hz, hw⟩
  exact ⟨rs, h1, hc⟩
theorem ty_c24 : prog.cellsOf 24 = 2 := by kernel_rfl
set_option maxRecDepth 100000 in
theorem rd24 {n : Nat} {cs : List AV} (h : wtV prog n 24 cs) : ∃ x : Rf, cs = Rf.v x ∧ Rf.wt x := by
  obtain ⟨m, h1, h2⟩ := wtV_struct underlying24 h
  rw [ty_c24] at h1
  obtain ⟨a0, a1, rfl⟩ := ty_len2 h1
  simp only [List.forall_mem_cons, List.not_mem_nil, ty_c3] at h2
  simp at h2
  obtain ⟨k0, k1⟩ := h2
  obtain ⟨x0, e0, w0⟩ := rd3 k0
  cases e0
  obtain ⟨x1, e1, w1⟩ := rd3 k1
  cases e1
  exact ⟨⟨x0, x1⟩, rfl, w0, w1, trivial⟩
theorem ty_c45 : prog.cellsOf 45 = 2 := by kernel_rfl
set_option maxRecDepth 100000 in
theorem rd45 {n : Nat} {cs : List AV} (h : wtV prog n 45 cs) : ∃ (x0 : Int) (x1 : Int), cs = [.int .i64 x0, .int .i64 x1] ∧ inR x0 ∧ inR x1 ∧ True := by
  obtain ⟨m, h1, h2⟩ := wtV_struct underlying45 h
  rw [ty_c45] at h1
  obtain ⟨a0, a1, rfl⟩ := ty_len2 h1
  simp only [List.forall_mem_cons, List.not_mem_nil, ty_c3] at h2
  simp at h2
  obtain ⟨k0, k1⟩ := h2
  obtain ⟨x0, e0, w0⟩ := rd3 k0
  cases e0
  obtain ⟨x1, e1, w1⟩ := rd3 k1
  cases e1
  exact ⟨x0, x1, rfl, w0, w1, trivial⟩
theorem ty_c63 : prog.cellsOf 63 = 2 := by kernel_rfl
set_option maxRecDepth 100000 in
theorem rd63 {n : Nat} {cs : List AV} (h : wtV prog n 63 cs) : ∃ (x0 : Int) (x1 : Int), cs = [.int .i64 x0, .int .i64 x1] ∧ inR x0 ∧ inR x1 ∧ True := by
  obtain ⟨m, h1, h2⟩ := wtV_struct underlying63 h
  rw [ty_c63] at h1
  obtain ⟨a0, a1, rfl⟩ := ty_len2 h1
  simp only [List.forall_mem_cons, List.not_mem_nil, ty_c3] at h2
  simp at h2
  obtain ⟨k0, k1⟩ := h2
  obtain ⟨x0, e0, w0⟩ := rd3 k0
  cases e0
  obtain ⟨x1, e1, w1⟩ := rd3 k1
  cases e1
  exact ⟨x0, x1, rfl, w0, w1, trivial⟩
theorem ty_c117 : prog.cellsOf 117 = 3 := by kernel_rfl
theorem ty_len3 {cs : List AV} (h : cs.length = 3) : ∃ a0 a1 a2, cs = [a0, a1, a2] := by
  obtain _ | ⟨a0, cs⟩ := cs <;> simp only [List.length_cons, List.length_nil] at h <;> (try omega)
  obtain _ | ⟨a1, cs⟩ := cs <;> simp only [List.length_cons, List.length_nil] at h <;> (try omega)
  obtain _ | ⟨a2, cs⟩ := cs <;> simp only [List.length_cons, List.length_nil] at h <;> (try omega)
  obtain _ | ⟨z, cs⟩ := cs <;> simp only [List.length_cons, List.length_nil] at h <;> (try omega)
  exact ⟨_, _, _, rfl⟩
set_option maxRecDepth 100000 in
theorem rd117 {n : Nat} {cs : List AV} (h : wtV prog n 117 cs) : ∃ x : Pt, cs = Pt.e x ∧ Pt.wt x := by
  obtain ⟨m, h1, h2⟩ := wtV_struct underlying117 h
  rw [ty_c117] at h1
  obtain ⟨a0, a1, a2, rfl⟩ := ty_len3 h1
  simp only [List.forall_mem_cons, List.not_mem_nil, ty_c3] at h2
  simp at h2
  obtain ⟨k0, k1, k2⟩ := h2
  obtain ⟨x0, e0, w0⟩ := rd3 k0
  cases e0
  obtain ⟨x1, e1, w1⟩ := rd3 k1
  cases e1
  obtain ⟨x2, e2, w2⟩ := rd3 k2
  cases e2
  exact ⟨⟨x0, x1, x2⟩, rfl, w0, w1, w2, trivial⟩
theorem ty_c64 : prog.cellsOf 64 = 1 := by kernel_rfl
set_option maxRecDepth 100000 in
theorem rd64 {n : Nat} {cs : List AV} (h : wtV prog n 64 cs) : ∃ l : List Pt, cs = [.tsl 3 (l.map Pt.e)] ∧ (∀ z ∈ l, Pt.wt z) := by
  obtain ⟨m, es, h1, h2, h3⟩ := wtV_slice underlying64 ty_c117 (by decide) h
  obtain ⟨rs, rfl, hc⟩ := map_of (f := Pt.e) (C := Pt.wt) (es := es) fun x hx => by
    obtain ⟨z, hz, hw⟩ := rd117 (h3 x hx).2
    exact ⟨z, hz, hw⟩
  exact ⟨rs, h1, hc⟩
theorem ty_c4 : prog.cellsOf 4 = 1 := by kernel_rfl
theorem rd4 {n : Nat} {cs : List AV} (h : wtV prog n 4 cs) : ∃ x : Bool, cs = [.bool x] ∧ True := by
  obtain ⟨x, hx⟩ := wtV_bool underlying4 h
  exact ⟨x, hx, trivial⟩
theorem ty_c9 : prog.cellsOf 9 = 1 := by kernel_rfl
theorem rd9 {n : Nat} {cs : List AV} (h : wtV prog n 9 cs) : ∃ x : ByteArray, cs = [.str x] ∧ True := by
  obtain ⟨x, hx, _⟩ := wtV_str underlying9 h
  exact ⟨x, hx, trivial⟩
theorem ty_c66 : prog.cellsOf 66 = 4 := by kernel_rfl
theorem ty_len4 {cs : List AV} (h : cs.length = 4) : ∃ a0 a1 a2 a3, cs = [a0, a1, a2, a3] := by
  obtain _ | ⟨a0, cs⟩ := cs <;> simp only [List.length_cons, List.length_nil] at h <;> (try omega)
  obtain _ | ⟨a1, cs⟩ := cs <;> simp only [List.length_cons, List.length_nil] at h <;> (try omega)
  obtain _ | ⟨a2, cs⟩ := cs <;> simp only [List.length_cons, List.length_nil] at h <;> (try omega)
  obtain _ | ⟨a3, cs⟩ := cs <;> simp only [List.length_cons, List.length_nil] at h <;> (try omega)
  obtain _ | ⟨z, cs⟩ := cs <;> simp only [List.length_cons, List.length_nil] at h <;> (try omega)
  exact ⟨_, _, _, _, rfl⟩
set_option maxRecDepth 100000 in
theorem rd66 {n : Nat} {cs : List AV} (h : wtV prog n 66 cs) : ∃ (x0 : Bool) (x1 : Int) (x2 : Int) (x3 : ByteArray), cs = [.bool x0, .int .i64 x1, .int .i64 x2, .str x3] ∧ True ∧ inR x1 ∧ inR x2 ∧ True ∧ True := by
  obtain ⟨m, h1, h2⟩ := wtV_struct underlying66 h
  rw [ty_c66] at h1
  obtain ⟨a0, a1, a2, a3, rfl⟩ := ty_len4 h1
  simp only [List.forall_mem_cons, List.not_mem_nil, ty_c3, ty_c4, ty_c9] at h2
  simp at h2
  obtain ⟨k0, k1, k2, k3⟩ := h2
  obtain ⟨x0, e0, w0⟩ := rd4 k0
  cases e0
  obtain ⟨x1, e1, w1⟩ := rd3 k1
  cases e1
  obtain ⟨x2, e2, w2⟩ := rd3 k2
  cases e2
  obtain ⟨x3, e3, w3⟩ := rd9 k3
  cases e3
  exact ⟨x0, x1, x2, x3, rfl, w0, w1, w2, w3, trivial⟩
theorem ty_c67 : prog.cellsOf 67 = 1 := by kernel_rfl
theorem rd67 {n : Nat} {cs : List AV} (h : wtV prog n 67 cs) : ∃ x : Int, cs = [.int .i64 x] ∧ inR x := by
  obtain ⟨x, hx, hb⟩ := wtV_int underlying67 h
  exact ⟨x, hx, hb⟩
theorem ty_c69 : prog.cellsOf 69 = 18 := by kernel_rfl
theorem ty_len18 {cs : List AV} (h : cs.length = 18) : ∃ a0 a1 a2 a3 a4 a5 a6 a7 a8 a9 a10 a11 a12 a13 a14 a15 a16 a17, cs = [a0, a1, a2, a3, a4, a5, a6, a7, a8, a9, a10, a11, a12, a13, a14, a15, a16, a17] := by
  obtain _ | ⟨a0, cs⟩ := cs <;> simp only [List.length_cons, List.length_nil] at h <;> (try omega)
  obtain _ | ⟨a1, cs⟩ := cs <;> simp only [List.length_cons, List.length_nil] at h <;> (try omega)
  obtain _ | ⟨a2, cs⟩ := cs <;> simp only [List.length_cons, List.length_nil] at h <;> (try omega)
  obtain _ | ⟨a3, cs⟩ := cs <;> simp only [List.length_cons, List.length_nil] at h <;> (try omega)
  obtain _ | ⟨a4, cs⟩ := cs <;> simp only [List.length_cons, List.length_nil] at h <;> (try omega)
  obtain _ | ⟨a5, cs⟩ := cs <;> simp only [List.length_cons, List.length_nil] at h <;> (try omega)
  obtain _ | ⟨a6, cs⟩ := cs <;> simp only [List.length_cons, List.length_nil] at h <;> (try omega)
  obtain _ | ⟨a7, cs⟩ := cs <;> simp only [List.length_cons, List.length_nil] at h <;> (try omega)
  obtain _ | ⟨a8, cs⟩ := cs <;> simp only [List.length_cons, List.length_nil] at h <;> (try omega)
  obtain _ | ⟨a9, cs⟩ := cs <;> simp only [List.length_cons, List.length_nil] at h <;> (try omega)
  obtain _ | ⟨a10, cs⟩ := cs <;> simp only [List.length_cons, List.length_nil] at h <;> (try omega)
  obtain _ | ⟨a11, cs⟩ := cs <;> simp only [List.length_cons, List.length_nil] at h <;> (try omega)
  obtain _ | ⟨a12, cs⟩ := cs <;> simp only [List.length_cons, List.length_nil] at h <;> (try omega)
  obtain _ | ⟨a13, cs⟩ := cs <;> simp only [List.length_cons, List.length_nil] at h <;> (try omega)
  obtain _ | ⟨a14, cs⟩ := cs <;> simp only [List.length_cons, List.length_nil] at h <;> (try omega)
  obtain _ | ⟨a15, cs⟩ := cs <;> simp only [List.length_cons, List.length_nil] at h <;> (try omega)
  obtain _ | ⟨a16, cs⟩ := cs <;> simp only [List.length_cons, List.length_nil] at h <;> (try omega)
  obtain _ | ⟨a17, cs⟩ := cs <;> simp only [List.length_cons, List.length_nil] at h <;> (try omega)
  obtain _ | ⟨z, cs⟩ := cs <;> simp only [List.length_cons, List.length_nil] at h <;> (try omega)
  exact ⟨_, _, _, _, _, _, _, _, _, _, _, _, _, _, _, _, _, _, rfl⟩
set_option maxRecDepth 100000 in
theorem rd69 {n : Nat} {cs : List AV} (h : wtV prog n 69 cs) : ∃ x : Ev, cs = Ev.e x ∧ Ev.wt x := by
  obtain ⟨m, h1, h2⟩ := wtV_struct underlying69 h
  rw [ty_c69] at h1
  obtain ⟨a0, a1, a2, a3, a4, a5, a6, a7, a8, a9, a10, a11, a12, a13, a14, a15, a16, a17, rfl⟩ := ty_len18 h1
  simp only [List.forall_mem_cons, List.not_mem_nil, ty_c3, ty_c26, ty_c45, ty_c63, ty_c64, ty_c66, ty_c67] at h2
  simp at h2
  obtain ⟨k0, k1, k2, k3, k4, k5, k6, k7, k8, k9, k10, k11⟩ := h2
  obtain ⟨x0, e0, w0⟩ := rd3 k0
  cases e0
  obtain ⟨x1, e1, w1⟩ := rd3 k1
  cases e1
  obtain ⟨x2, x3, e2, w2, w3, _⟩ := rd45 k2
  cases e2
  obtain ⟨x4, x5, e3, w4, w5, _⟩ := rd45 k3
  cases e3
  obtain ⟨x6, x7, e4, w6, w7, _⟩ := rd63 k4
  cases e4
  obtain ⟨x8, e5, w8⟩ := rd64 k5
  cases e5
  obtain ⟨x9, x10, x11, x12, e6, w9, w10, w11, w12, _⟩ := rd66 k6
  cases e6
  obtain ⟨x13, e7, w13⟩ := rd26 k7
  cases e7
  obtain ⟨x14, e8, w14⟩ := rd3 k8
  cases e8
  obtain ⟨x15, e9, w15⟩ := rd3 k9
  cases e9
  obtain ⟨x16, e10, w16⟩ := rd3 k10
  cases e10
  obtain ⟨x17, e11, w17⟩ := rd67 k11
  cases e11
  exact ⟨⟨x0, x1, x2, x3, x4, x5, x6, x7, x8, x9, x10, x11, x12, x13, x14, x15, x16, x17⟩, rfl, w0, w1, w2, w3, w4, w5, w6, w7, w8, w9, w10, w11, w12, w13, w14, w15, w16, w17, trivial⟩
theorem ty_c42 : prog.cellsOf 42 = 1 := by kernel_rfl
set_option maxRecDepth 100000 in
theorem rd42 {n : Nat} {cs : List AV} (h : wtV prog n 42 cs) : ∃ l : List Ev, cs = [.tsl 18 (l.map Ev.e)] ∧ (∀ z ∈ l, Ev.wt z) := by
  obtain ⟨m, es, h1, h2, h3⟩ := wtV_slice underlying42 ty_c69 (by decide) h
  obtain ⟨rs, rfl, hc⟩ := map_of (f := Ev.e) (C := Ev.wt) (es := es) fun x hx => by
    obtain ⟨z, hz, hw⟩ := rd69 (h3 x hx).2
    exact ⟨z, hz, hw⟩
  exact ⟨rs, h1, hc⟩
theorem ty_c142 : prog.cellsOf 142 = 4 := by kernel_rfl
set_option maxRecDepth 100000 in
theorem rd142 {n : Nat} {cs : List AV} (h : wtV prog n 142 cs) : ∃ x : Tu, cs = Tu.e x ∧ Tu.wt x := by
  obtain ⟨m, h1, h2⟩ := wtV_struct underlying142 h
  rw [ty_c142] at h1
  obtain ⟨a0, a1, a2, a3, rfl⟩ := ty_len4 h1
  simp only [List.forall_mem_cons, List.not_mem_nil, ty_c3] at h2
  simp at h2
  obtain ⟨k0, k1, k2, k3⟩ := h2
  obtain ⟨x0, e0, w0⟩ := rd3 k0
  cases e0
  obtain ⟨x1, e1, w1⟩ := rd3 k1
  cases e1
  obtain ⟨x2, e2, w2⟩ := rd3 k2
  cases e2
  obtain ⟨x3, e3, w3⟩ := rd3 k3
  cases e3
  exact ⟨⟨x0, x1, x2, x3⟩, rfl, w0, w1, w2, w3, trivial⟩
theorem ty_c43 : prog.cellsOf 43 = 1 := by kernel_rfl
set_option maxRecDepth 100000 in
theorem rd43 {n : Nat} {cs : List AV} (h : wtV prog n 43 cs) : ∃ l : List Tu, cs = [.tsl 4 (l.map Tu.e)] ∧ (∀ z ∈ l, Tu.wt z) := by
  obtain ⟨m, es, h1, h2, h3⟩ := wtV_slice underlying43 ty_c142 (by decide) h
  obtain ⟨rs, rfl, hc⟩ := map_of (f := Tu.e) (C := Tu.wt) (es := es) fun x hx => by
    obtain ⟨z, hz, hw⟩ := rd142 (h3 x hx).2
    exact ⟨z, hz, hw⟩
  exact ⟨rs, h1, hc⟩
theorem ty_c125 : prog.cellsOf 125 = 4 := by kernel_rfl
set_option maxRecDepth 100000 in
theorem rd125 {n : Nat} {cs : List AV} (h : wtV prog n 125 cs) : ∃ x : Sy, cs = Sy.e x ∧ Sy.wt x := by
  obtain ⟨m, h1, h2⟩ := wtV_struct underlying125 h
  rw [ty_c125] at h1
  obtain ⟨a0, a1, a2, a3, rfl⟩ := ty_len4 h1
  simp only [List.forall_mem_cons, List.not_mem_nil, ty_c3, ty_c4, ty_c9] at h2
  simp at h2
  obtain ⟨k0, k1, k2, k3⟩ := h2
  obtain ⟨x0, e0, w0⟩ := rd3 k0
  cases e0
  obtain ⟨x1, e1, w1⟩ := rd9 k1
  cases e1
  obtain ⟨x2, e2, w2⟩ := rd4 k2
  cases e2
  obtain ⟨x3, e3, w3⟩ := rd4 k3
  cases e3
  exact ⟨⟨x0, x1, x2, x3⟩, rfl, w0, w1, w2, w3, trivial⟩
theorem ty_c75 : prog.cellsOf 75 = 1 := by kernel_rfl
set_option maxRecDepth 100000 in
theorem rd75 {n : Nat} {cs : List AV} (h : wtV prog n 75 cs) : ∃ l : List Sy, cs = [.tsl 4 (l.map Sy.e)] ∧ (∀ z ∈ l, Sy.wt z) := by
  obtain ⟨m, es, h1, h2, h3⟩ := wtV_slice underlying75 ty_c125 (by decide) h
  obtain ⟨rs, rfl, hc⟩ := map_of (f := Sy.e) (C := Sy.wt) (es := es) fun x hx => by
    obtain ⟨z, hz, hw⟩ := rd125 (h3 x hx).2
    exact ⟨z, hz, hw⟩
  exact ⟨rs, h1, hc⟩
theorem ty_c46 : prog.cellsOf 46 = 1 := by kernel_rfl
set_option maxRecDepth 100000 in
theorem rd46 {n : Nat} {cs : List AV} (h : wtV prog n 46 cs) : ∃ l : List (List Sy), cs = [.tsl 1 (l.map vsE)] ∧ (∀ z ∈ l, ∀ y ∈ z, Sy.wt y) := by
  obtain ⟨m, es, h1, h2, h3⟩ := wtV_slice underlying46 ty_c75 (by decide) h
  obtain ⟨rs, rfl, hc⟩ := map_of (f := vsE) (C := fun z => ∀ y ∈ z, Sy.wt y) (es := es) fun x hx => by
    obtain ⟨z, hz, hw⟩ := rd75 (h3 x hx).2
    exact ⟨z, hz, hw⟩
  exact ⟨rs, h1, hc⟩
theorem ty_c48 : prog.cellsOf 48 = 7 := by kernel_rfl
theorem ty_len7 {cs : List AV} (h : cs.length = 7) : ∃ a0 a1 a2 a3 a4 a5 a6, cs = [a0, a1, a2, a3, a4, a5, a6] := by
  obtain _ | ⟨a0, cs⟩ := cs <;> simp only [List.length_cons, List.length_nil] at h <;> (try omega)
  obtain _ | ⟨a1, cs⟩ := cs <;> simp only [List.length_cons, List.length_nil] at h <;> (try omega)
  obtain _ | ⟨a2, cs⟩ := cs <;> simp only [List.length_cons, List.length_nil] at h <;> (try omega)
  obtain _ | ⟨a3, cs⟩ := cs <;> simp only [List.length_cons, List.length_nil] at h <;> (try omega)
  obtain _ | ⟨a4, cs⟩ := cs <;> simp only [List.length_cons, List.length_nil] at h <;> (try omega)
  obtain _ | ⟨a5, cs⟩ := cs <;> simp only [List.length_cons, List.length_nil] at h <;> (try omega)
  obtain _ | ⟨a6, cs⟩ := cs <;> simp only [List.length_cons, List.length_nil] at h <;> (try omega)
  obtain _ | ⟨z, cs⟩ := cs <;> simp only [List.length_cons, List.length_nil] at h <;> (try omega)
  exact ⟨_, _, _, _, _, _, _, rfl⟩
set_option maxRecDepth 100000 in
theorem rd48 {n : Nat} {cs : List AV} (h : wtV prog n 48 cs) : ∃ x : Ln, cs = Ln.e x ∧ Ln.wt x := by
  obtain ⟨m, h1, h2⟩ := wtV_struct underlying48 h
  rw [ty_c48] at h1
  obtain ⟨a0, a1, a2, a3, a4, a5, a6, rfl⟩ := ty_len7 h1
  simp only [List.forall_mem_cons, List.not_mem_nil, ty_c3, ty_c42, ty_c43, ty_c45, ty_c46] at h2
  simp at h2
  obtain ⟨k0, k1, k2, k3, k4, k5⟩ := h2
  obtain ⟨x0, e0, w0⟩ := rd3 k0
  cases e0
  obtain ⟨x1, e1, w1⟩ := rd3 k1
  cases e1
  obtain ⟨x2, e2, w2⟩ := rd42 k2
  cases e2
  obtain ⟨x3, e3, w3⟩ := rd43 k3
  cases e3
  obtain ⟨x4, x5, e4, w4, w5, _⟩ := rd45 k4
  cases e4
  obtain ⟨x6, e5, w6⟩ := rd46 k5
  cases e5
  exact ⟨⟨x0, x1, x2, x3, x4, x5, x6⟩, rfl, w0, w1, w2, w3, w4, w5, w6, trivial⟩
theorem ty_c25 : prog.cellsOf 25 = 1 := by kernel_rfl
set_option maxRecDepth 100000 in
theorem rd25 {n : Nat} {cs : List AV} (h : wtV prog n 25 cs) : ∃ l : List Ln, cs = [.tsl 7 (l.map Ln.e)] ∧ (∀ z ∈ l, Ln.wt z) := by
  obtain ⟨m, es, h1, h2, h3⟩ := wtV_slice underlying25 ty_c48 (by decide) h
  obtain ⟨rs, rfl, hc⟩ := map_of (f := Ln.e) (C := Ln.wt) (es := es) fun x hx => by
    obtain ⟨z, hz, hw⟩ := rd48 (h3 x hx).2
    exact ⟨z, hz, hw⟩
  exact ⟨rs, h1, hc⟩
end Go.AM.Bm
