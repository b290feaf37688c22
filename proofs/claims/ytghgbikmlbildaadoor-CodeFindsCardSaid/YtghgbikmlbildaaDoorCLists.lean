/-
  lists: the walk (printed by gen_lists.py).
-/
import Derived.Test.YtghgbikmlbildaaDoorCFields
import Derived.Test.YtghgbikmlbildaaDoorCOrder
namespace Go.Proofs.YtghgbikmlbildaaDoor
open Go.RowKit
set_option linter.unusedVariables false
set_option linter.unusedSimpArgs false

def litAt (lits : List Tm) (i : Int) : Tm := (lits[i.toNat]?).getD zeroTm
def clit (cases : List RCase) (k : Nat) : Int := ((cases[k]?).map RCase.lit).getD 0
def kindOk (t : Tm) : Bool := decide (t.kind = 1 ∨ t.kind = 2 ∨ t.kind = 8)
def caseOk (lits : List Tm) (cases : List RCase) (k : Nat) : Bool := wi (clit cases k) 0 ((lits.length : Int) - 1) && (kindOk (litAt lits (clit cases k)) && (decide (k = 0) || decide (cmpS (litAt lits (clit cases (k - 1))) (litAt lits (clit cases k)) < 0)))
def casesB (lits : List Tm) (cases : List RCase) : Bool := decide (∀ k, k < cases.length → caseOk lits cases k = true)
def segB (nl : Nat) (g : RSeg) : Bool := wi g.type 1 3 && (opdB nl g.val && (((decide (g.size.kind = 0) && decide (g.size.n = 0)) || opdB nl g.size) && (!g.little || g.type == 1)))
/-- Are the cases and segments of an instruction allowed? -/
def listsB (lits : List Tm) (x : RIns) : Bool := ((!(x.op == 12) || wi x.cases.length 1 1000) && decide ((x.segs.length : Int) ≤ 60)) && (casesB lits x.cases && x.segs.all (segB lits.length))
theorem casesB_no {lits : List Tm} {cases : List RCase} {k : Nat} (h : k < cases.length) (e : caseOk lits cases k = false) : casesB lits cases = false := by
  unfold casesB; exact decide_eq_false (fun hh => by rw [hh k h] at e; cases e)
theorem casesB_yes {lits : List Tm} {cases : List RCase} (h : ∀ k, k < cases.length → caseOk lits cases k = true) : casesB lits cases = true := decide_eq_true h
theorem clit_at {cases : List RCase} {k : Nat} (h : k < cases.length) : clit cases k = cases[k].lit := by unfold clit; rw [List.getElem?_eq_getElem h]; rfl
theorem litAt_at {lits : List Tm} {m : Nat} (h : m < lits.length) : litAt lits (m : Int) = lits[m] := by unfold litAt; rw [Int.toNat_natCast, List.getElem?_eq_getElem h]; rfl
theorem valid_items {f : Nat} {t : Tm} (h : validF (f + 1) t = true) (hk : t.kind = 1 ∨ t.kind = 2 ∨ t.kind = 8) : t.items = [] := by
  unfold validF formF locB zeroK at h
  have h4 : decide (t.kind = 4 ∨ t.kind = 7 ∨ t.kind = 9) = false := decide_eq_false (by omega)
  simp only [h4, Bool.and_eq_true, Bool.false_or] at h
  have := h.1.1.2.1.1.2
  unfold zL at this
  exact List.eq_nil_of_length_eq_zero (of_decide_eq_true this)

/-- The literals of a unit, each valid. -/
structure LitsOk (w : World) (f : Nat) (lo : Option Addr) (lits : List Tm) : Prop where
  at' : SlAt w 9 (TmAt w (f + 1)) lo lits
  ok : ∀ t ∈ lits, validF (f + 1) t = true ∧ (capF (f + 1) t : Int) ≤ 1152921504606846976
theorem LitsOk.below {w w' : World} {f : Nat} {lo : Option Addr} {lits : List Tm} (h : LitsOk w f lo lits) (hb : Below w.heap.size w w') : LitsOk w' f lo lits := ⟨h.at'.tms hb, h.ok⟩
/-- Two literals without parts by order.Less. -/
theorem less_lits {w : World} {f : Nat} {lo : Option Addr} {lits : List Tm} (h : LitsOk w f lo lits) {i j : Nat} (hi : i < lits.length) (hj : j < lits.length) (ki : kindOk lits[i] = true) (kj : kindOk lits[j] = true) {ai aj : Option Addr} {ci cj : Nat}
    (si : SlAt w 9 (TmAt w f) ai lits[i].items) (sj : SlAt w 9 (TmAt w f) aj lits[j].items) (oi : lits[i].Ok) (oj : lits[j].Ok) (wx : World) (hx : Below w.heap.size w wx) :
    Calls Tryd.prog 35 #[.agg #[.int .i64 lits[i].kind, .int .i64 lits[i].int, .int .i64 lits[i].gen, .string lits[i].name, .string lits[i].func, .int .i64 lits[i].arity, .slice ai lits[i].items.length ci, .string lits[i].bytes, .int .i64 lits[i].bits], .agg #[.int .i64 lits[j].kind, .int .i64 lits[j].int, .int .i64 lits[j].gen, .string lits[j].name, .string lits[j].func, .int .i64 lits[j].arity, .slice aj lits[j].items.length cj, .string lits[j].bytes, .int .i64 lits[j].bits]] wx fun e w' => e = .returned (.bool (decide (cmpS lits[i] lits[j] < 0))) ∧ Below wx.heap.size wx w' := by
  obtain ⟨vi, bi⟩ := h.ok _ (List.getElem_mem hi)
  obtain ⟨vj, bj⟩ := h.ok _ (List.getElem_mem hj)
  have ki' := of_decide_eq_true ki
  have kj' := of_decide_eq_true kj
  exact less_simple f lits[i] lits[j] ai aj ci cj wx (si.tms hx) (sj.tms hx) oi oj bi bj vi vj (valid_items vi ki') (valid_items vj kj') (by omega) (by omega) (by omega)
end Go.Proofs.YtghgbikmlbildaaDoor
