/-
  Units of code in memory: the plain data, and what it is that cells hold them. No program in sight.
-/
import Derived.Test.YthmpobimmbmddaaGreatDoorIPlain
import Derived.Below
import Derived.WalkKit
import Derived.ChangeArms
import Derived.DataReads
import Derived.Lib.Hide
namespace Go.Proofs.YthmpobimmbmddaaGreatDoor
open Go.RowKit
set_option linter.unusedVariables false
set_option linter.unusedSimpArgs false

/-- A term. -/
inductive Tm where
  | mk (kind int gen : Int) (name func : ByteArray) (arity : Int) (items : List Tm) (bytes : ByteArray) (bits : Int)
namespace Tm
def kind : Tm → Int | .mk a _ _ _ _ _ _ _ _ => a
def int : Tm → Int | .mk _ a _ _ _ _ _ _ _ => a
def gen : Tm → Int | .mk _ _ a _ _ _ _ _ _ => a
def name : Tm → ByteArray | .mk _ _ _ a _ _ _ _ _ => a
def func : Tm → ByteArray | .mk _ _ _ _ a _ _ _ _ => a
def arity : Tm → Int | .mk _ _ _ _ _ a _ _ _ => a
def items : Tm → List Tm | .mk _ _ _ _ _ _ a _ _ => a
def bytes : Tm → ByteArray | .mk _ _ _ _ _ _ _ a _ => a
def bits : Tm → Int | .mk _ _ _ _ _ _ _ _ a => a
def Ok (t : Tm) : Prop := I64 t.kind ∧ I64 t.int ∧ I64 t.gen ∧ t.name.size ≤ maxLen ∧ t.func.size ≤ maxLen ∧ I64 t.arity ∧ t.items.length ≤ maxLen ∧ t.bytes.size ≤ maxLen ∧ I64 t.bits
end Tm
structure RArg where
  kind : Int
  n : Int
structure RCase where
  lit : Int
  to : Int
structure RSeg where
  type : Int
  val : RArg
  size : RArg
  little : Bool
structure RIns where
  op : Int
  dst : RArg
  src : List RArg
  to : Int
  n : Int
  live : Int
  name : ByteArray
  cases : List RCase
  segs : List RSeg
structure RFunc where
  name : ByteArray
  arity : Int
  pub : Bool
  entry : Int
structure RFun where
  arity : Int
  free : Int
  entry : Int
structure RUnit where
  mdl : ByteArray
  vsn : Int
  lits : List Tm
  funcs : List RFunc
  funs : List RFun
  code : List RIns

/-- A slice's cells: size cells an element, each row of cells holding its element. -/
def SlAt {α : Type} (w : World) (size : Nat) (R : List Value → α → Prop) (ao : Option Addr) (l : List α) : Prop :=
  l = [] ∨ ∃ b off, ao = some ⟨b, off, none⟩ ∧ b < w.heap.size ∧ ∀ j (h : j < l.length), ∃ cs : List Value, cs.length = size ∧ (∀ i, i < size → w.cell? ⟨b, off + j * size + i, none⟩ = cs[i]?) ∧ R cs l[j]
theorem SlAt.mono {α : Type} {w w' : World} {size : Nat} {R R' : List Value → α → Prop} {ao : Option Addr} {l : List α} (h : SlAt w size R ao l) (hb : Below w.heap.size w w') (hR : ∀ cs a, R cs a → R' cs a) : SlAt w' size R' ao l := by
  rcases h with h | ⟨b, off, e, hB, hr⟩
  · exact .inl h
  · refine .inr ⟨b, off, e, Nat.lt_of_lt_of_le hB hb.size, fun j hj => ?_⟩
    obtain ⟨cs, hl, hc, hR'⟩ := hr j hj
    exact ⟨cs, hl, fun i hi => (hb.cell (p := ⟨b, off + j * size + i, none⟩) hB).trans (hc i hi), hR _ _ hR'⟩
theorem SlAt.row {α : Type} {w : World} {size : Nat} {R : List Value → α → Prop} {ao : Option Addr} {l : List α} (h : SlAt w size R ao l) {k : Nat} (hk : k < l.length) :
    ∃ b off, ao = some ⟨b, off, none⟩ ∧ b < w.heap.size ∧ ∀ j (h : j < l.length), ∃ cs : List Value, cs.length = size ∧ (∀ i, i < size → w.cell? ⟨b, off + j * size + i, none⟩ = cs[i]?) ∧ R cs l[j] := by
  rcases h with h | h
  · rw [h] at hk; exact absurd hk (Nat.not_lt_zero _)
  · exact h
theorem SlAt.nil {α : Type} (w : World) (size : Nat) (R : List Value → α → Prop) (ao : Option Addr) : SlAt w size R ao [] := .inl rfl

/-- Cells hold a term whose depth is at most f. -/
def TmAt (w : World) : Nat → List Value → Tm → Prop
  | 0, _, _ => False
  | f + 1, cs, t => (∃ ao c, cs = [.int .i64 t.kind, .int .i64 t.int, .int .i64 t.gen, .string t.name, .string t.func, .int .i64 t.arity, .slice ao t.items.length c, .string t.bytes, .int .i64 t.bits] ∧ SlAt w 9 (TmAt w f) ao t.items) ∧ t.Ok
theorem TmAt.below {w w' : World} (hb : Below w.heap.size w w') : ∀ {f : Nat} {cs : List Value} {t : Tm}, TmAt w f cs t → TmAt w' f cs t
  | 0, _, _, h => h
  | _ + 1, _, _, ⟨⟨ao, c, e, hs⟩, ho⟩ => ⟨⟨ao, c, e, hs.mono hb fun _ _ h => TmAt.below hb h⟩, ho⟩
theorem SlAt.imp {α : Type} {w : World} {size : Nat} {R R' : List Value → α → Prop} {ao : Option Addr} {l : List α} (h : SlAt w size R ao l) (hR : ∀ cs a, R cs a → R' cs a) : SlAt w size R' ao l :=
  h.elim .inl fun ⟨b, off, e, hB, hr⟩ => .inr ⟨b, off, e, hB, fun j hj => (hr j hj).elim fun cs ⟨a, b, c⟩ => ⟨cs, a, b, hR _ _ c⟩⟩
theorem TmAt.succ {w : World} : ∀ {f : Nat} {cs : List Value} {t : Tm}, TmAt w f cs t → TmAt w (f + 1) cs t
  | 0, _, _, h => h.elim
  | f + 1, _, _, ⟨⟨ao, c, e, hs⟩, ho⟩ => ⟨⟨ao, c, e, hs.imp fun _ _ h => TmAt.succ h⟩, ho⟩
theorem TmAt.le {w : World} {f g : Nat} (h : f ≤ g) {cs : List Value} {t : Tm} (ht : TmAt w f cs t) : TmAt w g cs t := by
  induction h with
  | refl => exact ht
  | step _ ih => exact ih.succ
def TmA (w : World) (cs : List Value) (t : Tm) : Prop := ∃ f, TmAt w f cs t
theorem TmA.below {w w' : World} {cs : List Value} {t : Tm} (h : TmA w cs t) (hb : Below w.heap.size w w') : TmA w' cs t := h.elim fun f h => ⟨f, h.below hb⟩
theorem TmAt.ok {w : World} : ∀ {f : Nat} {cs : List Value} {t : Tm}, TmAt w f cs t → t.Ok
  | 0, _, _, h => h.elim
  | _ + 1, _, _, ⟨_, ho⟩ => ho

def ArgR (cs : List Value) (a : RArg) : Prop := cs = [.int .i64 a.kind, .int .i64 a.n] ∧ I64 a.kind ∧ I64 a.n
def CaseR (cs : List Value) (a : RCase) : Prop := cs = [.int .i64 a.lit, .int .i64 a.to] ∧ I64 a.lit ∧ I64 a.to
def SegR (cs : List Value) (a : RSeg) : Prop := cs = [.int .i64 a.type, .int .i64 a.val.kind, .int .i64 a.val.n, .int .i64 a.size.kind, .int .i64 a.size.n, .bool a.little] ∧ I64 a.type ∧ I64 a.val.kind ∧ I64 a.val.n ∧ I64 a.size.kind ∧ I64 a.size.n
def FuncR (cs : List Value) (a : RFunc) : Prop := cs = [.string a.name, .int .i64 a.arity, .bool a.pub, .int .i64 a.entry] ∧ a.name.size ≤ maxLen ∧ I64 a.arity ∧ I64 a.entry
def FunR (cs : List Value) (a : RFun) : Prop := cs = [.int .i64 a.arity, .int .i64 a.free, .int .i64 a.entry] ∧ I64 a.arity ∧ I64 a.free ∧ I64 a.entry
def InsR (w : World) (cs : List Value) (x : RIns) : Prop :=
  (∃ so sc co cc go gc, cs = [.int .i64 x.op, .int .i64 x.dst.kind, .int .i64 x.dst.n, .slice so x.src.length sc, .int .i64 x.to, .int .i64 x.n, .int .i64 x.live, .string x.name, .slice co x.cases.length cc, .slice go x.segs.length gc] ∧
    SlAt w 2 ArgR so x.src ∧ SlAt w 2 CaseR co x.cases ∧ SlAt w 6 SegR go x.segs) ∧
  I64 x.op ∧ I64 x.dst.kind ∧ I64 x.dst.n ∧ x.src.length ≤ maxLen ∧ I64 x.to ∧ I64 x.n ∧ I64 x.live ∧ x.name.size ≤ maxLen ∧ x.cases.length ≤ maxLen ∧ x.segs.length ≤ maxLen
theorem InsR.below {w w' : World} {cs : List Value} {x : RIns} (h : InsR w cs x) (hb : Below w.heap.size w w') : InsR w' cs x := by
  obtain ⟨⟨so, sc, co, cc, go, gc, e, h1, h2, h3⟩, hr⟩ := h
  exact ⟨⟨so, sc, co, cc, go, gc, e, h1.mono hb fun _ _ h => h, h2.mono hb fun _ _ h => h, h3.mono hb fun _ _ h => h⟩, hr⟩
def UR (w : World) (cs : List Value) (u : RUnit) : Prop :=
  (∃ lo lc fo fc go gc co cc, cs = [.string u.mdl, .int .i64 u.vsn, .slice lo u.lits.length lc, .slice fo u.funcs.length fc, .slice go u.funs.length gc, .slice co u.code.length cc] ∧
    SlAt w 9 (TmA w) lo u.lits ∧ SlAt w 4 FuncR fo u.funcs ∧ SlAt w 3 FunR go u.funs ∧ SlAt w 10 (InsR w) co u.code) ∧
  u.mdl.size ≤ maxLen ∧ I64 u.vsn ∧ u.lits.length ≤ maxLen ∧ u.funcs.length ≤ maxLen ∧ u.funs.length ≤ maxLen ∧ u.code.length ≤ maxLen
theorem UR.below {w w' : World} {cs : List Value} {u : RUnit} (h : UR w cs u) (hb : Below w.heap.size w w') : UR w' cs u := by
  obtain ⟨⟨lo, lc, fo, fc, go, gc, co, cc, e, h1, h2, h3, h4⟩, hr⟩ := h
  exact ⟨⟨lo, lc, fo, fc, go, gc, co, cc, e, h1.mono hb fun _ _ h => h.below hb, h2.mono hb fun _ _ h => h, h3.mono hb fun _ _ h => h, h4.mono hb fun _ _ h => h.below hb⟩, hr⟩

/-! ### From the reading of an argument -/
section
variable {H : Type} {enc : TypeId × Value → H} {P : Program} {w : World} {base : Nat} {spare : Nat → Bool} {held : Bool}
theorem i64_of {n : Int} (h : (Lit.int .i64 n).wf = true) : I64 n := by
  simp [Lit.wf, IntKind.min, IntKind.max, IntKind.bits, IntKind.signed] at h; unfold I64; omega
theorem open_i64 {t : TypeId} {fuel : Nat} {cs : List Value} {x : DataW H × List MemPlace} (ht : P.underlying t = some (.int .i64)) (h : DataW.trod enc P w base spare held fuel t cs = some x) : ∃ n, cs = [.int .i64 n] ∧ I64 n := by
  obtain ⟨n, e, _, hw⟩ := DataW.trod_int ht h
  exact ⟨n, e, i64_of hw⟩
theorem open_str {t : TypeId} {fuel : Nat} {cs : List Value} {x : DataW H × List MemPlace} (ht : P.underlying t = some .string) (h : DataW.trod enc P w base spare held fuel t cs = some x) : ∃ s, cs = [.string s] ∧ s.size ≤ maxLen := by
  obtain ⟨n, e, _, hw⟩ := DataW.trod_string ht h
  exact ⟨n, e, hw⟩
theorem open_sl {α : Type} {t e : TypeId} {size fuel : Nat} {cs : List Value} {x : DataW H × List MemPlace} (R : List Value → α → Prop) (ht : P.underlying t = some (.slice e)) (hC : P.cellsOf e = size) (h0 : 0 < size)
    (h : DataW.trod enc P w base spare held fuel t cs = some x)
    (hR : ∀ n cs' y, n < fuel → cs'.length = size → DataW.trod enc P w base spare held n e cs' = some y → ∃ a, R cs' a) :
    ∃ ao c l, cs = [.slice ao l.length c] ∧ SlAt w size R ao l ∧ l.length ≤ maxLen := by
  rcases DataW.trod_slice ht h with ⟨e1, _⟩ | ⟨a, len, cap, elems, rest, n, hf, e1, _, hb, hl, hm, hlen, hel, _, _⟩
  · exact ⟨none, 0, [], e1, .inl rfl, Nat.zero_le _⟩
  · have each : ∀ i, i < len → ∃ (x : α) (cs' : List Value), cs'.length = size ∧ (∀ k, k < size → w.cell? ((a.add (i * size)).add k) = cs'[k]?) ∧ R cs' x := fun i hi => by
      have hx := hel i hi
      have hil : i < elems.length := by omega
      rw [List.getElem?_eq_getElem hil, Option.bind_eq_some_iff] at hx
      obtain ⟨cs', hc, ht'⟩ := hx
      rw [hC] at hc
      obtain ⟨_, hcl, hat⟩ := World.cells?_some hc
      obtain ⟨x, hx⟩ := hR n cs' _ (by omega) hcl ht'
      exact ⟨x, cs', hcl, hat, hx⟩
    have all : ∀ m, m ≤ len → ∃ l : List α, l.length = m ∧ ∀ j (h : j < l.length), ∃ cs' : List Value, cs'.length = size ∧ (∀ k, k < size → w.cell? ((a.add (j * size)).add k) = cs'[k]?) ∧ R cs' l[j] := by
      intro m
      induction m with
      | zero => exact fun _ => ⟨[], rfl, fun j h => absurd h (Nat.not_lt_zero _)⟩
      | succ m ih =>
        intro hm'
        obtain ⟨l, hl', hr⟩ := ih (by omega)
        obtain ⟨x, cs', h1, h2, h3⟩ := each m (by omega)
        refine ⟨l ++ [x], by simp [hl'], fun j hj => ?_⟩
        by_cases hjl : j < l.length
        · obtain ⟨cs2, g1, g2, g3⟩ := hr j hjl
          exact ⟨cs2, g1, g2, by rw [List.getElem_append_left hjl]; exact g3⟩
        · have hj2 : j = m := by simp at hj; omega
          subst hj2
          refine ⟨cs', h1, h2, ?_⟩
          rw [List.getElem_append_right (by omega)]
          simpa [hl'] using h3
    obtain ⟨l, hl2, hr⟩ := all len (Nat.le_refl _)
    refine ⟨some a, cap, l, by rw [hl2]; exact e1, ?_, by omega⟩
    rcases Nat.eq_zero_or_pos len with hz | hz
    · left; exact List.eq_nil_of_length_eq_zero (by omega)
    · right
      obtain ⟨cs0, k1, k2, _⟩ := hr 0 (by omega)
      have hc0 : w.cell? a = some (cs0[0]'(by omega)) := by
        have := k2 0 h0
        rw [Nat.zero_mul] at this
        rw [← List.getElem?_eq_getElem, ← this]; rfl
      have hsp := World.cell?_spot (a := a) hc0
      obtain ⟨b, off, sp⟩ := a
      simp only at hsp
      subst hsp
      have hadd : ∀ k, (⟨b, off, none⟩ : Addr).add k = ⟨b, off + k, none⟩ := fun k => by unfold Addr.add; split <;> simp_all
      have hadd2 : ∀ o k, (⟨b, o, none⟩ : Addr).add k = ⟨b, o + k, none⟩ := fun o k => by unfold Addr.add; split <;> simp_all
      refine ⟨b, off, rfl, ?_, fun j hj => ?_⟩
      · rcases Nat.lt_or_ge b w.heap.size with h | h
        · exact h
        · simp [World.cell?, Array.getElem?_eq_none h] at hc0
      · obtain ⟨cs2, g1, g2, g3⟩ := hr j hj
        refine ⟨cs2, g1, fun i hi => ?_, g3⟩
        have := g2 i hi
        rwa [hadd, hadd2] at this
end
end Go.Proofs.YthmpobimmbmddaaGreatDoor
