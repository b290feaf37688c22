/-
  The cells of an element of a slice, one by one. No program in sight.
-/
import Derived.Test.YthmpobimmbmddaaGreatDoorUMem
namespace Go.Proofs.YthmpobimmbmddaaGreatDoor
open Go.RowKit

section
variable {w : World} {ao : Option Addr} {k : Nat}
theorem SlAt.tm {f : Nat} {l : List Tm} (h : SlAt w 9 (TmAt w (f + 1)) ao l) (hk : k < l.length) :
    ∃ b off ai c, ao = some ⟨b, off, none⟩ ∧ b < w.heap.size ∧ w.cell? ⟨b, off + k * 9, none⟩ = some (.int .i64 l[k].kind) ∧ w.cell? ⟨b, off + k * 9 + 1, none⟩ = some (.int .i64 l[k].int) ∧
      w.cell? ⟨b, off + k * 9 + 2, none⟩ = some (.int .i64 l[k].gen) ∧ w.cell? ⟨b, off + k * 9 + 3, none⟩ = some (.string l[k].name) ∧ w.cell? ⟨b, off + k * 9 + 4, none⟩ = some (.string l[k].func) ∧
      w.cell? ⟨b, off + k * 9 + 5, none⟩ = some (.int .i64 l[k].arity) ∧ w.cell? ⟨b, off + k * 9 + 6, none⟩ = some (.slice ai l[k].items.length c) ∧ w.cell? ⟨b, off + k * 9 + 7, none⟩ = some (.string l[k].bytes) ∧
      w.cell? ⟨b, off + k * 9 + 8, none⟩ = some (.int .i64 l[k].bits) ∧ SlAt w 9 (TmAt w f) ai l[k].items ∧ l[k].Ok := by
  obtain ⟨b, off, e, hb, hr⟩ := h.row hk
  obtain ⟨cs, _, hc, ⟨ai, c, rfl, hs⟩, ho⟩ := hr k hk
  exact ⟨b, off, ai, c, e, hb, hc 0 (by decide), hc 1 (by decide), hc 2 (by decide), hc 3 (by decide), hc 4 (by decide), hc 5 (by decide), hc 6 (by decide), hc 7 (by decide), hc 8 (by decide), hs, ho⟩
theorem SlAt.arg {l : List RArg} (h : SlAt w 2 ArgR ao l) (hk : k < l.length) :
    ∃ b off, ao = some ⟨b, off, none⟩ ∧ b < w.heap.size ∧ w.cell? ⟨b, off + k * 2, none⟩ = some (.int .i64 l[k].kind) ∧ w.cell? ⟨b, off + k * 2 + 1, none⟩ = some (.int .i64 l[k].n) ∧ I64 l[k].kind ∧ I64 l[k].n := by
  obtain ⟨b, off, e, hb, hr⟩ := h.row hk
  obtain ⟨cs, _, hc, rfl, h1, h2⟩ := hr k hk
  exact ⟨b, off, e, hb, hc 0 (by decide), hc 1 (by decide), h1, h2⟩
theorem SlAt.case {l : List RCase} (h : SlAt w 2 CaseR ao l) (hk : k < l.length) :
    ∃ b off, ao = some ⟨b, off, none⟩ ∧ b < w.heap.size ∧ w.cell? ⟨b, off + k * 2, none⟩ = some (.int .i64 l[k].lit) ∧ w.cell? ⟨b, off + k * 2 + 1, none⟩ = some (.int .i64 l[k].to) ∧ I64 l[k].lit ∧ I64 l[k].to := by
  obtain ⟨b, off, e, hb, hr⟩ := h.row hk
  obtain ⟨cs, _, hc, rfl, h1, h2⟩ := hr k hk
  exact ⟨b, off, e, hb, hc 0 (by decide), hc 1 (by decide), h1, h2⟩
theorem SlAt.seg {l : List RSeg} (h : SlAt w 6 SegR ao l) (hk : k < l.length) :
    ∃ b off, ao = some ⟨b, off, none⟩ ∧ b < w.heap.size ∧ w.cell? ⟨b, off + k * 6, none⟩ = some (.int .i64 l[k].type) ∧ w.cell? ⟨b, off + k * 6 + 1, none⟩ = some (.int .i64 l[k].val.kind) ∧ w.cell? ⟨b, off + k * 6 + 2, none⟩ = some (.int .i64 l[k].val.n) ∧
      w.cell? ⟨b, off + k * 6 + 3, none⟩ = some (.int .i64 l[k].size.kind) ∧ w.cell? ⟨b, off + k * 6 + 4, none⟩ = some (.int .i64 l[k].size.n) ∧ w.cell? ⟨b, off + k * 6 + 5, none⟩ = some (.bool l[k].little) ∧
      I64 l[k].type ∧ I64 l[k].val.kind ∧ I64 l[k].val.n ∧ I64 l[k].size.kind ∧ I64 l[k].size.n := by
  obtain ⟨b, off, e, hb, hr⟩ := h.row hk
  obtain ⟨cs, _, hc, rfl, h1⟩ := hr k hk
  exact ⟨b, off, e, hb, hc 0 (by decide), hc 1 (by decide), hc 2 (by decide), hc 3 (by decide), hc 4 (by decide), hc 5 (by decide), h1⟩
theorem SlAt.func {l : List RFunc} (h : SlAt w 4 FuncR ao l) (hk : k < l.length) :
    ∃ b off, ao = some ⟨b, off, none⟩ ∧ b < w.heap.size ∧ w.cell? ⟨b, off + k * 4, none⟩ = some (.string l[k].name) ∧ w.cell? ⟨b, off + k * 4 + 1, none⟩ = some (.int .i64 l[k].arity) ∧ w.cell? ⟨b, off + k * 4 + 2, none⟩ = some (.bool l[k].pub) ∧
      w.cell? ⟨b, off + k * 4 + 3, none⟩ = some (.int .i64 l[k].entry) ∧ l[k].name.size ≤ maxLen ∧ I64 l[k].arity ∧ I64 l[k].entry := by
  obtain ⟨b, off, e, hb, hr⟩ := h.row hk
  obtain ⟨cs, _, hc, rfl, h1⟩ := hr k hk
  exact ⟨b, off, e, hb, hc 0 (by decide), hc 1 (by decide), hc 2 (by decide), hc 3 (by decide), h1⟩
theorem SlAt.fn {l : List RFun} (h : SlAt w 3 FunR ao l) (hk : k < l.length) :
    ∃ b off, ao = some ⟨b, off, none⟩ ∧ b < w.heap.size ∧ w.cell? ⟨b, off + k * 3, none⟩ = some (.int .i64 l[k].arity) ∧ w.cell? ⟨b, off + k * 3 + 1, none⟩ = some (.int .i64 l[k].free) ∧ w.cell? ⟨b, off + k * 3 + 2, none⟩ = some (.int .i64 l[k].entry) ∧
      I64 l[k].arity ∧ I64 l[k].free ∧ I64 l[k].entry := by
  obtain ⟨b, off, e, hb, hr⟩ := h.row hk
  obtain ⟨cs, _, hc, rfl, h1⟩ := hr k hk
  exact ⟨b, off, e, hb, hc 0 (by decide), hc 1 (by decide), hc 2 (by decide), h1⟩
theorem SlAt.ins {l : List RIns} (h : SlAt w 10 (InsR w) ao l) (hk : k < l.length) :
    ∃ b off so sc co cc go gc, ao = some ⟨b, off, none⟩ ∧ b < w.heap.size ∧ w.cell? ⟨b, off + k * 10, none⟩ = some (.int .i64 l[k].op) ∧ w.cell? ⟨b, off + k * 10 + 1, none⟩ = some (.int .i64 l[k].dst.kind) ∧ w.cell? ⟨b, off + k * 10 + 2, none⟩ = some (.int .i64 l[k].dst.n) ∧
      w.cell? ⟨b, off + k * 10 + 3, none⟩ = some (.slice so l[k].src.length sc) ∧ w.cell? ⟨b, off + k * 10 + 4, none⟩ = some (.int .i64 l[k].to) ∧ w.cell? ⟨b, off + k * 10 + 5, none⟩ = some (.int .i64 l[k].n) ∧ w.cell? ⟨b, off + k * 10 + 6, none⟩ = some (.int .i64 l[k].live) ∧
      w.cell? ⟨b, off + k * 10 + 7, none⟩ = some (.string l[k].name) ∧ w.cell? ⟨b, off + k * 10 + 8, none⟩ = some (.slice co l[k].cases.length cc) ∧ w.cell? ⟨b, off + k * 10 + 9, none⟩ = some (.slice go l[k].segs.length gc) ∧
      SlAt w 2 ArgR so l[k].src ∧ SlAt w 2 CaseR co l[k].cases ∧ SlAt w 6 SegR go l[k].segs ∧
      I64 l[k].op ∧ I64 l[k].dst.kind ∧ I64 l[k].dst.n ∧ l[k].src.length ≤ maxLen ∧ I64 l[k].to ∧ I64 l[k].n ∧ I64 l[k].live ∧ l[k].name.size ≤ maxLen ∧ l[k].cases.length ≤ maxLen ∧ l[k].segs.length ≤ maxLen := by
  obtain ⟨b, off, e, hb, hr⟩ := h.row hk
  obtain ⟨cs, _, hc, ⟨so, sc, co, cc, go, gc, rfl, s1, s2, s3⟩, h1⟩ := hr k hk
  exact ⟨b, off, so, sc, co, cc, go, gc, e, hb, hc 0 (by decide), hc 1 (by decide), hc 2 (by decide), hc 3 (by decide), hc 4 (by decide), hc 5 (by decide), hc 6 (by decide), hc 7 (by decide), hc 8 (by decide), hc 9 (by decide), s1, s2, s3, h1⟩
end
end Go.Proofs.YthmpobimmbmddaaGreatDoor
