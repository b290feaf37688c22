/-
  code.Get: the walk (printed by gen_kget.py). The reader of units, as a plain function: the encoding of a unit that Check accepts is read back. Encodings of units: no proper beginning of one, and none with a byte more, is accepted. No program in sight. The reference's Same and SameList on terms that are equal: the walks.
-/
import Derived.Deep.RegionWith
import Derived.Deep.RegionHeld3
import Derived.Test.YtghgbikmlbildaaGreatDoorRoundsAll05
import Derived.Test.YtghgbikmlbildaaGreatDoorRoundsAll13
import Derived.Test.YtghgbikmlbildaaGreatDoorRoundsAll19
import Derived.Test.YtghgbikmlbildaaGreatDoorRoundsAll23
import Derived.Test.YtghgbikmlbildaaGreatDoorRoundsAll26
namespace Go.Proofs.YtghgbikmlbildaaGreatDoor
open Go.RowKit
set_option linter.unusedVariables false
set_option linter.unusedSimpArgs false

/-- What code.Get may end in. -/
def UGetQ (s : ByteArray) (w : World) (e : Ending) (w' : World) : Prop :=
 (match ugetD s.data.toList with
 | none => e = .returned (.tuple #[.agg zeroU, .int .i64 6])
 | some u => ∃ lo lc fo fc go gc co cc, e = .returned (.tuple #[.agg #[.string u.mdl, .int .i64 u.vsn, .slice lo u.lits.length lc, .slice fo u.funcs.length fc, .slice go u.funs.length gc, .slice co u.code.length cc], .int .i64 0]) ∧ UP w' u lo fo go co ∧ SlAt w' 9 (TmAt w' 2000) lo u.lits) ∧ Below w.heap.size w w'
theorem results_out2 {fn : Func} {p u : Tmp} {ty t2 : TypeId} (h : fn.results = #[.cell p ty, .cell u t2]) (tmps : Array Value) (P : Program) (w : World) (X : Nat) (cs : Array Value) (e : Value) (fs : Array Field)
  (hp : tmps.getD p undef = .pointer (some ⟨X, 0, none⟩)) (hu : tmps.getD u undef = .pointer (some ⟨X + 1, 0, none⟩)) (ho : Out2 X w cs e)
  (hty : P.underlying ty = some (.struct fs)) (hi : (P.info? ty).map (·.size) = some cs.size) (h2 : (loadVar t2 ⟨X + 1, 0, none⟩).run P w = .ok e w) :
  (results fn tmps).run P w = .ok (.tuple #[.agg cs, e]) w := by
 have hl := run_loadVar_row w X 27 ty cs (0, 0) (.struct fs) ho.x hty rfl hi
 have hp' : tmps[p]?.getD undef = .pointer (some ⟨X, 0, none⟩) := by simpa using hp
 have hu' : tmps[u]?.getD undef = .pointer (some ⟨X + 1, 0, none⟩) := by simpa using hu
 simp [results, h, hp', hu', asAddr, hl, h2]
theorem three_blocks (w : World) (o0 o1 o2 : Obj) : (((w.alloc o0).alloc o1).alloc o2).heap[w.heap.size]? = some o0 ∧ (((w.alloc o0).alloc o1).alloc o2).heap[w.heap.size + 1]? = some o1 ∧ (((w.alloc o0).alloc o1).alloc o2).heap[w.heap.size + 2]? = some o2 := by
 have n0 := heap_alloc_new w o0
 have n1 := heap_alloc_new (w.alloc o0) o1
 have n2 := heap_alloc_new ((w.alloc o0).alloc o1) o2
 rw [show (w.alloc o0).heap.size = w.heap.size + 1 by simp] at n1
 rw [show ((w.alloc o0).alloc o1).heap.size = w.heap.size + 2 by simp] at n2
 refine ⟨?_, ?_, n2⟩
 ·rw [Below.heap_alloc _ _ _ (by simp; omega), Below.heap_alloc _ _ _ (by simp)]; exact n0
 ·rw [Below.heap_alloc _ _ _ (by simp)]; exact n1
/-- Get at work: block X is the unit's, X + 1 the error's, X + 2 the reader. -/
structure GSt (w0 : World) (X : Nat) (l : List UInt8) (m : ByteArray) (v : Int) (a : List Tm) (b : List RFunc) (c : List RFun) (d : List RIns) (wx : World) : Prop where
 rd : RdC (X + 2) l wx
 bel : Below X w0 wx
 y : ∃ lo lc fo fc go gc co cc, Out2 X wx #[.string m, .int .i64 v, .slice lo a.length lc, .slice fo b.length fc, .slice go c.length gc, .slice co d.length cc] (.int .i64 0) ∧ SlIn wx (X + 3 ≤ ·) 9 (Way.tm.on wx (X + 3 ≤ ·)) lo a ∧ SlIn wx (X + 3 ≤ ·) 4 FuncR fo b ∧ SlIn wx (X + 3 ≤ ·) 3 FunR go c ∧ SlIn wx (X + 3 ≤ ·) 10 (Way.ins.on wx (X + 3 ≤ ·)) co d
theorem GSt.lt {w0 : World} {X : Nat} {l : List UInt8} {m : ByteArray} {v : Int} {a : List Tm} {b : List RFunc} {c : List RFun} {d : List RIns} {wx : World} (S : GSt w0 X l m v a b c d wx) : X + 2 < wx.heap.size := S.rd.lt
theorem GSt.call {w0 : World} {X : Nat} {l : List UInt8} {m : ByteArray} {v : Int} {a : List Tm} {b : List RFunc} {c : List RFun} {d : List RIns} {wx wy : World} (S : GSt w0 X l m v a b c d wx) {l' : List UInt8} (hr : RdC (X + 2) l' wy) (hg : wx.grownBy wy (some (X + 2))) : GSt w0 X l' m v a b c d wy := by
 obtain ⟨lo, lc, fo, fc, go, gc, co, cc, ho, s1, s2, s3, s4⟩ := S.y
 have hlt := S.lt
 have hk : ∀ b, X + 3 ≤ b → b < wx.heap.size → wy.heap[b]? = wx.heap[b]? := fun b hb hl => hg.block b hl fun e => by have := Option.some.inj e; omega
 exact ⟨hr, below_grownB S.bel hg (by omega) (by omega), lo, lc, fo, fc, go, gc, co, cc, ho.grown hg, s1.onKeep hg.size hk (fun b h _ => h), s2.kept hg.size hk (fun b h _ => h) (fun _ _ h => h), s3.kept hg.size hk (fun b h _ => h) (fun _ _ h => h), s4.onKeep hg.size hk (fun b h _ => h)⟩
theorem GSt.put {w0 : World} {X : Nat} {l : List UInt8} {m : ByteArray} {v : Int} {a : List Tm} {b : List RFunc} {c : List RFun} {d : List RIns} {wx wy : World} (S : GSt w0 X l m v a b c d wx) (hof : OffB X wx wy) (hbl : Below X wx wy) {m' : ByteArray} {v' : Int} {a' : List Tm} {b' : List RFunc} {c' : List RFun} {d' : List RIns}
  {lo : Option Addr} {lc : Nat} {fo : Option Addr} {fc : Nat} {go : Option Addr} {gc : Nat} {co : Option Addr} {cc : Nat} (hx : wy.heap[X]? = some (.cells #[.string m', .int .i64 v', .slice lo a'.length lc, .slice fo b'.length fc, .slice go c'.length gc, .slice co d'.length cc] 27 (0, 0))) (he : wx.heap[X + 1]? = some (.cells #[.int .i64 0] 30 (0, 0)))
  (s1 : SlIn wx (X + 3 ≤ ·) 9 (Way.tm.on wx (X + 3 ≤ ·)) lo a') (s2 : SlIn wx (X + 3 ≤ ·) 4 FuncR fo b') (s3 : SlIn wx (X + 3 ≤ ·) 3 FunR go c') (s4 : SlIn wx (X + 3 ≤ ·) 10 (Way.ins.on wx (X + 3 ≤ ·)) co d') : GSt w0 X l m' v' a' b' c' d' wy := by
 have hk : ∀ b, X + 3 ≤ b → b < wx.heap.size → wy.heap[b]? = wx.heap[b]? := fun b hb hl => hof.2 b (by omega)
 exact ⟨S.rd.off hof (by omega), S.bel.trans hbl, lo, lc, fo, fc, go, gc, co, cc, ⟨hx, (hof.2 _ (by omega)).trans he⟩, s1.onKeep hof.1 hk (fun b h _ => h), s2.kept hof.1 hk (fun b h _ => h) (fun _ _ h => h), s3.kept hof.1 hk (fun b h _ => h) (fun _ _ h => h), s4.onKeep hof.1 hk (fun b h _ => h)⟩
theorem six_far (X : Nat) (w : World) (v0 v1 v2 v3 v4 v5 e : Value) : (∀ b, X + 3 ≤ b → (((((((w.setCell ⟨X, 0, none⟩ v0).setCell ⟨X, 1, none⟩ v1).setCell ⟨X, 2, none⟩ v2).setCell ⟨X, 3, none⟩ v3).setCell ⟨X, 4, none⟩ v4).setCell ⟨X, 5, none⟩ v5).setCell ⟨X + 1, 0, none⟩ e).heap[b]? = w.heap[b]?) ∧ w.heap.size ≤ (((((((w.setCell ⟨X, 0, none⟩ v0).setCell ⟨X, 1, none⟩ v1).setCell ⟨X, 2, none⟩ v2).setCell ⟨X, 3, none⟩ v3).setCell ⟨X, 4, none⟩ v4).setCell ⟨X, 5, none⟩ v5).setCell ⟨X + 1, 0, none⟩ e).heap.size :=
 ⟨fun b hb => ((OffB.set (X + 1) _ 0 e).2 b (by omega)).trans ((OffB.six X w v0 v1 v2 v3 v4 v5).2 b (by omega)), Nat.le_trans (OffB.six X w v0 v1 v2 v3 v4 v5).1 (OffB.set (X + 1) _ 0 e).1⟩
theorem checkE_or (f : Nat) (u : RUnit) : checkE f u = 0 ∨ checkE f u = 6 := by
 unfold checkE
 split
 ·split
  ·exact .inr rfl
  ·exact .inl rfl
 ·exact .inr rfl
theorem up_of {w : World} {P : Nat → Prop} {u : RUnit} {lo fo go co : Option Addr} (ho : UnitOk u) (s1 : SlIn w P 9 (Way.tm.on w P) lo u.lits) (s2 : SlIn w P 4 FuncR fo u.funcs) (s3 : SlIn w P 3 FunR go u.funs) (s4 : SlIn w P 10 (Way.ins.on w P) co u.code) :
  UP w u lo fo go co ∧ SlAt w 9 (TmAt w 2000) lo u.lits := by
 have h1 : SlAt w 9 (TmAt w 2000) lo u.lits := s1.at fun j hj cs hx => TmIn.ok hx (ho.lits _ (List.getElem_mem hj)).2
 have l1 := ho.litsL; have l2 := ho.funcsL; have l3 := ho.funsL; have l4 := ho.codeL; have l5 := ho.mdl
 exact ⟨⟨h1.imp fun _ _ h => ⟨2000, h⟩, s2.at fun _ _ _ h => h, s3.at fun _ _ _ h => h, s4.at fun j hj cs hx => InsIn.ok hx (ho.code _ (List.getElem_mem hj)), by omega, ho.vsn, by omega, by omega, by omega, by omega⟩, h1⟩
set_option maxRecDepth 100000 in
set_option maxHeartbeats 40000000 in
theorem uget_any (s : ByteArray) (w : World) (hs : s.size ≤ 68719476736) (hrows : RowsAt w) (hsp : SpaceAt w) : Calls Tryz.prog 17 #[.string s] w (UGetQ s w) := by
 have hmf : ∀ (fn : Fn) (first cap : Array Value) (w : World), (Instr.makeFunc fn first cap).run Tryz.prog w = .ok (.func fn first cap) w := fun _ _ _ _ => rfl
 generalize hQ : UGetQ s w = Q at *
 have HQ := Lib.hid hQ
 clear hQ
 have HU : Hid (ugetD s.data.toList = (unitD s.data.toList).bind fun x => if x.2 = [] ∧ checkE 2000 x.1 = 0 then some x.1 else none) := Lib.hid rfl
 have HD : Hid (unitD s.data.toList = (textD s.data.toList).bind fun m => (intD m.2).bind fun v => (listD litD v.2).bind fun a => (listD funcD a.2).bind fun b => (listD fnD b.2).bind fun c => (listD insD c.2).bind fun d => some (⟨m.1, v.1, a.1, b.1, c.1, d.1⟩, d.2)) := Lib.hid rfl
 have HRW := Lib.hid hrows
 have HSP := Lib.hid hsp
 clear hrows hsp
 go_enter_defers Tryz.func17, Tryz.ntmps17
 go_upto_region 3 with fail
 simp only [Nat.add_assoc, Nat.reduceAdd]
 have hO : Out2 w.heap.size (((w.alloc (.cells zeroU 27)).alloc (.cells #[.int .i64 0] 30)).alloc (.cells #[.string s] 95)) zeroU (.int .i64 0) := by
  obtain ⟨h0, h1, -⟩ := three_blocks w (.cells zeroU 27) (.cells #[.int .i64 0] 30) (.cells #[.string s] 95)
  exact ⟨h0, h1⟩
 have hR : RdC (w.heap.size + 2) s.data.toList (((w.alloc (.cells zeroU 27)).alloc (.cells #[.int .i64 0] 30)).alloc (.cells #[.string s] 95)) := ⟨s, (three_blocks w _ _ _).2.2, rfl, hs⟩
 have hB : Below w.heap.size w (((w.alloc (.cells zeroU 27)).alloc (.cells #[.int .i64 0] 30)).alloc (.cells #[.string s] 95)) := (((Below.refl _ _).alloc (Nat.le_refl _) _).alloc (by simp) _).alloc (by simp; omega) _
 unfold zeroU at hO hR hB
 generalize World.alloc _ _ = w3 at *
 have HRW3 : Hid (w.heap.size ≤ w3.heap.size) := Lib.hid hB.size
 generalize hXX : w.heap.size = X at *
 have HX := Lib.hid hXX
 clear hXX
 have hX := hR.lt
 have H1 := ktext_any (X + 2) s.data.toList w3 hR
 rcases h1 : textD s.data.toList with _ | ⟨m, l1⟩
 ·rw [h1] at H1 HD
  have HN : Hid (ugetD s.data.toList = none) := Lib.hid (by rw [HU.out, HD.out]; rfl)
  go_wp2_with (go_at_call 55; refine H1.mono ?_; rintro e v1 ⟨rfl, hg1⟩)
  refine leaves_cons (f := 54) (args := #[.pointer (some ⟨X, 0, none⟩), .pointer (some ⟨X + 1, 0, none⟩)]) (by simp) (by simp [go_sem]) ?_
  refine (get_catch X _ _ _ _ _ _ _ [] _ (hO.grown hg1)).mono ?_
  rintro e u' w'' ⟨rfl, rfl, hO9, hB9⟩
  simp only [settle, List.dropWhile_nil]
  refine ⟨_, results_out2 rfl _ _ _ X _ _ _ rfl rfl hO9 Tryz.underlying27 (by kernel_rfl) (load_errno hO9.e), ?_⟩
  rw [← HQ.out]
  refine ⟨by rw [HN.out], ?_⟩
  rw [HX.out]
  exact Below.trans (below_grownB hB hg1 (by omega) (by omega)) hB9
 rw [h1] at H1 HD
 rw [Option.bind_some] at HD
 go_wp2_with (go_at_call 55; refine H1.mono ?_; rintro e v1 ⟨rfl, hr1, hg1⟩; have hO1 := hO.grown hg1; have hB1 := below_grownB hB hg1 (by omega) (by omega); clear hO hB hR H1 hX)
 have hX := hr1.lt
 have H2 := knum_any (X + 2) l1 v1 hr1
 rcases h2 : vD l1 with _ | ⟨n, l2⟩
 ·rw [h2] at H2
  rw [show intD l1 = (vD l1).bind fun x => some ((x.1 : Int), x.2) from rfl, h2] at HD
  have HN : Hid (ugetD s.data.toList = none) := Lib.hid (by rw [HU.out, HD.out]; rfl)
  go_wp2_with (go_at_call 56; refine H2.mono ?_; rintro e v2 ⟨rfl, hg2⟩)
  refine leaves_cons (f := 54) (args := #[.pointer (some ⟨X, 0, none⟩), .pointer (some ⟨X + 1, 0, none⟩)]) (by simp) (by simp [go_sem]) ?_
  refine (get_catch X _ _ _ _ _ _ _ [] _ (hO1.grown hg2)).mono ?_
  rintro e u' w'' ⟨rfl, rfl, hO9, hB9⟩
  simp only [settle, List.dropWhile_nil]
  refine ⟨_, results_out2 rfl _ _ _ X _ _ _ rfl rfl hO9 Tryz.underlying27 (by kernel_rfl) (load_errno hO9.e), ?_⟩
  rw [← HQ.out]
  refine ⟨by rw [HN.out], ?_⟩
  rw [HX.out]
  exact Below.trans (below_grownB hB1 hg2 (by omega) (by omega)) hB9
 rw [h2] at H2
 rw [show intD l1 = (vD l1).bind fun x => some ((x.1 : Int), x.2) from rfl, h2] at HD
 rw [Option.bind_some, Option.bind_some] at HD
 have hn := (vD_len h2).1
 have hw64 : IntKind.i64.wrap (n : Int) = (n : Int) := by rw [IntKind.wrap_i64]; omega
 go_upto_region 4 with (go_at_call 56; refine H2.mono ?_; rintro e v2 ⟨rfl, hr2, hg2⟩; have hO2 := hO1.grown hg2; have hB2 := below_grownB hB1 hg2 (by omega) (by omega); clear hO1 hB1 hr1 H2 hg1 hX; obtain ⟨c0, c1, c2, c3, c4, c5, d0, d1, d2, d3, d4, d5⟩ := unit_cells hO2.x)
 clear c0 c1 c2 c3 c4 c5 d0 d1 d2 d3 d4 d5
 have S0 : GSt w X l2 ⟨#[]⟩ 0 [] [] [] [] v2 := ⟨hr2, hB2, none, 0, none, 0, none, 0, none, 0, hO2, .inl rfl, .inl rfl, .inl rfl, .inl rfl⟩
 have S := S0.put (m' := m) (v' := (n : Int)) (a' := []) (b' := []) (c' := []) (d' := []) (lo := none) (lc := 0) (fo := none) (fc := 0) (go := none) (gc := 0) (co := none) (cc := 0) (OffB.six X v2 (.string m) (.int .i64 (n : Int)) (.slice none 0 0) (.slice none 0 0) (.slice none 0 0) (.slice none 0 0)) (below6 (Below.refl _ _) (.string m) (.int .i64 (n : Int)) (.slice none 0 0) (.slice none 0 0) (.slice none 0 0) (.slice none 0 0)) (set6 (.string m) (.int .i64 (n : Int)) (.slice none 0 0) (.slice none 0 0) (.slice none 0 0) (.slice none 0 0) hO2.x) hO2.e (.inl rfl) (.inl rfl) (.inl rfl) (.inl rfl)
 clear S0 hr2 hB2 hO2 hg2 hw64
 generalize World.setCell _ _ _ = w4 at *
 generalize hv : (n : Int) = v at *
 have HL := Lib.hid S
 clear S
 have S := HL.out
 clear HL
 have hX := S.lt
 have H := klistLit_any (X + 2) l2 _ (fun l wx h => klit_any (X + 2) l wx h) litD_lt S.rd
 rcases h3 : listD litD l2 with _ | ⟨a, l3⟩
 ·rw [h3] at H HD
  have HN : Hid (ugetD s.data.toList = none) := Lib.hid (by rw [HU.out, HD.out]; rfl)
  obtain ⟨lo, lc, fo, fc, go, gc, co, cc, hO, -⟩ := S.y
  go_wp2_with (go_at_call 57; refine H.mono ?_; rintro e v5 ⟨rfl, hg5⟩)
  refine leaves_cons (f := 54) (args := #[.pointer (some ⟨X, 0, none⟩), .pointer (some ⟨X + 1, 0, none⟩)]) (by simp) (by simp [go_sem]) ?_
  refine (get_catch X _ _ _ _ _ _ _ [] _ (hO.grown hg5)).mono ?_
  rintro e u' w'' ⟨rfl, rfl, hO9, hB9⟩
  simp only [settle, List.dropWhile_nil]
  refine ⟨_, results_out2 rfl _ _ _ X _ _ _ rfl rfl hO9 Tryz.underlying27 (by kernel_rfl) (load_errno hO9.e), ?_⟩
  rw [← HQ.out]
  refine ⟨by rw [HN.out], ?_⟩
  rw [HX.out]
  exact Below.trans (below_grownB S.bel hg5 (by omega) (by omega)) hB9
 rw [h3] at H HD
 rw [Option.bind_some] at HD
 have hX3 : X + 3 ≤ w4.heap.size := hX
 go_upto_region 5 with (go_at_call 57; refine H.mono ?_; rintro e v5 ⟨⟨so2, c2, rfl, hsl⟩, hr5, hg5⟩; have S2 := S.call hr5 hg5; clear S; obtain ⟨lo, lc, fo, fc, go, gc, co, cc, hO, s1, s2, s3, s4⟩ := S2.y; obtain ⟨q0, q1, q2, q3, q4, q5, z0, z1, z2, z3, z4, z5⟩ := unit_cells hO.x)
 clear q0 q1 q2 q3 q4 q5 z0 z1 z2 z3 z4 z5
 have S3 := S2.put (OffB.set X _ 2 _) ((Below.refl _ _).setCell (p := ⟨X, 2, none⟩) (Nat.le_refl _) _) (heap_setCell_same _ _ 2 _ _ (.slice so2 a.length c2) hO.x) hO.e (hsl.onKeep (Nat.le_refl _) (fun _ _ _ => rfl) (fun b hb _ => Nat.le_trans hX3 hb)) s2 s3 s4
 have HL : Hid (GSt w X l3 m v a [] [] [] _) := Lib.hid S3
 clear S2 S3 hO s1 s2 s3 s4 hr5 hg5 hsl H hX hX3 h3
 generalize World.setCell _ _ _ = w5 at *
 have S := HL.out
 clear HL
 have hX := S.lt
 have H := klistFunc_any (X + 2) l3 _ (fun l wx h => kfunc_any (X + 2) l wx h) funcD_lt S.rd
 rcases h3 : listD funcD l3 with _ | ⟨b, l4⟩
 ·rw [h3] at H HD
  have HN : Hid (ugetD s.data.toList = none) := Lib.hid (by rw [HU.out, HD.out]; rfl)
  obtain ⟨lo, lc, fo, fc, go, gc, co, cc, hO, -⟩ := S.y
  go_wp2_with (go_at_call 59; refine H.mono ?_; rintro e v5 ⟨rfl, hg5⟩)
  refine leaves_cons (f := 54) (args := #[.pointer (some ⟨X, 0, none⟩), .pointer (some ⟨X + 1, 0, none⟩)]) (by simp) (by simp [go_sem]) ?_
  refine (get_catch X _ _ _ _ _ _ _ [] _ (hO.grown hg5)).mono ?_
  rintro e u' w'' ⟨rfl, rfl, hO9, hB9⟩
  simp only [settle, List.dropWhile_nil]
  refine ⟨_, results_out2 rfl _ _ _ X _ _ _ rfl rfl hO9 Tryz.underlying27 (by kernel_rfl) (load_errno hO9.e), ?_⟩
  rw [← HQ.out]
  refine ⟨by rw [HN.out], ?_⟩
  rw [HX.out]
  exact Below.trans (below_grownB S.bel hg5 (by omega) (by omega)) hB9
 rw [h3] at H HD
 rw [Option.bind_some] at HD
 have hX3 : X + 3 ≤ w5.heap.size := hX
 go_upto_region 6 with (go_at_call 59; refine H.mono ?_; rintro e v5 ⟨⟨so2, c2, rfl, hsl⟩, hr5, hg5⟩; have S2 := S.call hr5 hg5; clear S; obtain ⟨lo, lc, fo, fc, go, gc, co, cc, hO, s1, s2, s3, s4⟩ := S2.y; obtain ⟨q0, q1, q2, q3, q4, q5, z0, z1, z2, z3, z4, z5⟩ := unit_cells hO.x)
 clear q0 q1 q2 q3 q4 q5 z0 z1 z2 z3 z4 z5
 have S3 := S2.put (OffB.set X _ 3 _) ((Below.refl _ _).setCell (p := ⟨X, 3, none⟩) (Nat.le_refl _) _) (heap_setCell_same _ _ 3 _ _ (.slice so2 b.length c2) hO.x) hO.e s1 (hsl.kept (Nat.le_refl _) (fun _ _ _ => rfl) (fun b hb _ => Nat.le_trans hX3 hb) (fun _ _ h => h)) s3 s4
 have HL : Hid (GSt w X l4 m v a b [] [] _) := Lib.hid S3
 clear S2 S3 hO s1 s2 s3 s4 hr5 hg5 hsl H hX hX3 h3
 generalize World.setCell _ _ _ = w6 at *
 have S := HL.out
 clear HL
 have hX := S.lt
 have H := klistFun_any (X + 2) l4 _ (fun l wx h => kfun_any (X + 2) l wx h) fnD_lt S.rd
 rcases h3 : listD fnD l4 with _ | ⟨c, l5⟩
 ·rw [h3] at H HD
  have HN : Hid (ugetD s.data.toList = none) := Lib.hid (by rw [HU.out, HD.out]; rfl)
  obtain ⟨lo, lc, fo, fc, go, gc, co, cc, hO, -⟩ := S.y
  go_wp2_with (go_at_call 61; refine H.mono ?_; rintro e v5 ⟨rfl, hg5⟩)
  refine leaves_cons (f := 54) (args := #[.pointer (some ⟨X, 0, none⟩), .pointer (some ⟨X + 1, 0, none⟩)]) (by simp) (by simp [go_sem]) ?_
  refine (get_catch X _ _ _ _ _ _ _ [] _ (hO.grown hg5)).mono ?_
  rintro e u' w'' ⟨rfl, rfl, hO9, hB9⟩
  simp only [settle, List.dropWhile_nil]
  refine ⟨_, results_out2 rfl _ _ _ X _ _ _ rfl rfl hO9 Tryz.underlying27 (by kernel_rfl) (load_errno hO9.e), ?_⟩
  rw [← HQ.out]
  refine ⟨by rw [HN.out], ?_⟩
  rw [HX.out]
  exact Below.trans (below_grownB S.bel hg5 (by omega) (by omega)) hB9
 rw [h3] at H HD
 rw [Option.bind_some] at HD
 have hX3 : X + 3 ≤ w6.heap.size := hX
 go_upto_region 7 with (go_at_call 61; refine H.mono ?_; rintro e v5 ⟨⟨so2, c2, rfl, hsl⟩, hr5, hg5⟩; have S2 := S.call hr5 hg5; clear S; obtain ⟨lo, lc, fo, fc, go, gc, co, cc, hO, s1, s2, s3, s4⟩ := S2.y; obtain ⟨q0, q1, q2, q3, q4, q5, z0, z1, z2, z3, z4, z5⟩ := unit_cells hO.x)
 clear q0 q1 q2 q3 q4 q5 z0 z1 z2 z3 z4 z5
 have S3 := S2.put (OffB.set X _ 4 _) ((Below.refl _ _).setCell (p := ⟨X, 4, none⟩) (Nat.le_refl _) _) (heap_setCell_same _ _ 4 _ _ (.slice so2 c.length c2) hO.x) hO.e s1 s2 (hsl.kept (Nat.le_refl _) (fun _ _ _ => rfl) (fun b hb _ => Nat.le_trans hX3 hb) (fun _ _ h => h)) s4
 have HL : Hid (GSt w X l5 m v a b c [] _) := Lib.hid S3
 clear S2 S3 hO s1 s2 s3 s4 hr5 hg5 hsl H hX hX3 h3
 generalize World.setCell _ _ _ = w7 at *
 have S := HL.out
 clear HL
 have hX := S.lt
 have H := klistIns_any (X + 2) l5 _ (HRW.out.below (by rw [HX.out]; exact S.bel)) (fun l wx hw h => kins_any (X + 2) l wx hw h) insD_lt S.rd
 rcases h3 : listD insD l5 with _ | ⟨d, l6⟩
 ·rw [h3] at H HD
  have HN : Hid (ugetD s.data.toList = none) := Lib.hid (by rw [HU.out, HD.out]; rfl)
  obtain ⟨lo, lc, fo, fc, go, gc, co, cc, hO, -⟩ := S.y
  go_wp2_with (go_at_call 63; refine H.mono ?_; rintro e v5 ⟨rfl, hg5⟩)
  refine leaves_cons (f := 54) (args := #[.pointer (some ⟨X, 0, none⟩), .pointer (some ⟨X + 1, 0, none⟩)]) (by simp) (by simp [go_sem]) ?_
  refine (get_catch X _ _ _ _ _ _ _ [] _ (hO.grown hg5)).mono ?_
  rintro e u' w'' ⟨rfl, rfl, hO9, hB9⟩
  simp only [settle, List.dropWhile_nil]
  refine ⟨_, results_out2 rfl _ _ _ X _ _ _ rfl rfl hO9 Tryz.underlying27 (by kernel_rfl) (load_errno hO9.e), ?_⟩
  rw [← HQ.out]
  refine ⟨by rw [HN.out], ?_⟩
  rw [HX.out]
  exact Below.trans (below_grownB S.bel hg5 (by omega) (by omega)) hB9
 rw [h3] at H HD
 rw [Option.bind_some] at HD
 have hX3 : X + 3 ≤ w7.heap.size := hX
 go_upto_region 8 with (go_at_call 63; refine H.mono ?_; rintro e v5 ⟨⟨so2, c2, rfl, hsl⟩, hr5, hg5⟩; have S2 := S.call hr5 hg5; clear S; obtain ⟨lo, lc, fo, fc, go, gc, co, cc, hO, s1, s2, s3, s4⟩ := S2.y; obtain ⟨q0, q1, q2, q3, q4, q5, z0, z1, z2, z3, z4, z5⟩ := unit_cells hO.x)
 clear q0 q1 q2 q3 q4 q5 z0 z1 z2 z3 z4 z5
 have S3 := S2.put (OffB.set X _ 5 _) ((Below.refl _ _).setCell (p := ⟨X, 5, none⟩) (Nat.le_refl _) _) (heap_setCell_same _ _ 5 _ _ (.slice so2 d.length c2) hO.x) hO.e s1 s2 s3 (hsl.onKeep (Nat.le_refl _) (fun _ _ _ => rfl) (fun b hb _ => Nat.le_trans hX3 hb))
 have HL : Hid (GSt w X l6 m v a b c d _) := Lib.hid S3
 clear S2 S3 hO s1 s2 s3 s4 hr5 hg5 hsl H hX hX3 h3
 generalize World.setCell _ _ _ = w8 at *
 have S := HL.out
 clear HL
 obtain ⟨lo, lc, fo, fc, go, gc, co, cc, hO, s1, s2, s3, s4⟩ := S.y
 have hok := (unitD_enc HD.out).2
 have hup := up_of hok s1 s2 s3 s4
 have hcap : ∀ t ∈ a, (capF 2000 t : Int) ≤ 1152921504606846976 := fun t ht => by
  have h1 := hok.lits t ht
  have h2 := cap_nodes 2000 t h1.2
  have h3 := h1.1
  unfold validF at h3
  rw [Bool.and_eq_true, decide_eq_true_eq] at h3
  have h4 := nodes_whole 2000 t h3.1
  omega
 have hck := check_any 1999 ⟨m, v, a, b, c, d⟩ lo fo go co lc fc gc cc w8 (HRW.out.below (by rw [HX.out]; exact S.bel)) (HSP.out.below (by rw [HX.out]; exact S.bel)) hup.1 hup.2 hcap (fun x hx => by have := (hok.code x hx).name; omega)
 have HSS := Lib.hid (And.intro s1 (And.intro s2 (And.intro s3 (And.intro s4 hok))))
 have hee := checkE_or 2000 ⟨m, v, a, b, c, d⟩
 have HEE : Hid (ugetD s.data.toList = if l6 = [] ∧ checkE 2000 ⟨m, v, a, b, c, d⟩ = 0 then some ⟨m, v, a, b, c, d⟩ else none) := Lib.hid (by rw [HU.out, HD.out]; rfl)
 clear hok hup hcap s1 s2 s3 s4
 generalize checkI (1999 + 1) ⟨m, v, a, b, c, d⟩ = ci at *
 rw [show checkE (1999 + 1) ⟨m, v, a, b, c, d⟩ = checkE 2000 ⟨m, v, a, b, c, d⟩ from rfl] at hck
 generalize checkE 2000 ⟨m, v, a, b, c, d⟩ = ce at *
 obtain ⟨q0, q1, q2, q3, q4, q5, z0, z1, z2, z3, z4, z5⟩ := unit_cells hO.x
 go_upto_region 9 with (go_at_call 13; refine hck.mono ?_; rintro e w9 ⟨rfl, hb9⟩)
 obtain ⟨s6, hr6, hl6, hs6⟩ := S.rd.below hb9
 have hO9 := hO.below hb9
 have hB9 : Below X w w9 := S.bel.trans (hb9.mono (by have := S.lt; omega))
 have hle9 := hb9.size
 have HBL := Lib.hid hb9
 have hX8 := S.lt
 clear q0 q1 q2 q3 q4 q5 z0 z1 z2 z3 z4 z5 hO S hb9 hck
 obtain ⟨r0, g0⟩ := RdC.cells hr6
 obtain ⟨q0, q1, q2, q3, q4, q5, z0, z1, z2, z3, z4, z5⟩ := unit_cells hO9.x
 have k1 : w9.cell? ⟨X + 1, 0, none⟩ = some (.int .i64 0) := cell_of_row w9 _ 0 _ _ _ hO9.e
 have f1 : w9.frozen? ⟨X + 1, 0, none⟩ = false := frozen_of_row w9 _ 0 _ _ hO9.e
 clear hr6
 by_cases c6 : l6 = []
 case neg =>
  have HN : Hid (ugetD s.data.toList = none) := Lib.hid (by rw [HEE.out]; exact if_neg fun h => c6 h.1)
  have hne : ¬ s6.toList = [] := by rw [ByteArray.toList_eq, hl6]; exact c6
  have hne3 : s6.toList.isEmpty = false := by cases h : s6.toList with | nil => exact absurd h hne | cons => rfl
  clear HEE c6 hl6 hee
  have hO10 := hO9.six (.string ⟨#[]⟩) (.int .i64 0) (.slice none 0 0) (.slice none 0 0) (.slice none 0 0) (.slice none 0 0) (.int .i64 6)
  have hB10 : Below X w _ := (below6 hB9 (.string ⟨#[]⟩) (.int .i64 0) (.slice none 0 0) (.slice none 0 0) (.slice none 0 0) (.slice none 0 0)).setCell (p := ⟨X + 1, 0, none⟩) (show X ≤ X + 1 by omega) (.int .i64 6)
  go_wp2_with fail
  clear q0 q1 q2 q3 q4 q5 z0 z1 z2 z3 z4 z5 k1 f1 hO9 hB9
  generalize World.setCell _ ⟨X + 1, 0, none⟩ _ = w10 at *
  refine leaves_cons (f := 54) (args := #[.pointer (some ⟨X, 0, none⟩), .pointer (some ⟨X + 1, 0, none⟩)]) (by simp) (by simp [go_sem]) ?_
  refine (get_idle _ _ _).mono ?_
  rintro e u' w'' ⟨rfl, rfl, rfl⟩
  simp only [settle]
  refine ⟨_, results_out2 rfl _ _ _ X _ _ _ rfl rfl hO10 Tryz.underlying27 (by kernel_rfl) (load_errno hO10.e), ?_⟩
  rw [← HQ.out]
  exact ⟨by rw [HN.out]; exact rfl, by rw [HX.out]; exact hB10⟩
 subst c6
 have h0 : s6 = ⟨#[]⟩ := ByteArray.ext (Array.ext' hl6)
 subst h0
 by_cases ce0 : ce = 0
 case neg =>
  have HN : Hid (ugetD s.data.toList = none) := Lib.hid (by rw [HEE.out]; exact if_neg fun h => ce0 h.2)
  have ce6 := hee.resolve_left ce0
  subst ce6
  clear HEE hl6 hee ce0
  have hO10 := hO9.six (.string ⟨#[]⟩) (.int .i64 0) (.slice none 0 0) (.slice none 0 0) (.slice none 0 0) (.slice none 0 0) (.int .i64 6)
  have hB10 : Below X w _ := (below6 hB9 (.string ⟨#[]⟩) (.int .i64 0) (.slice none 0 0) (.slice none 0 0) (.slice none 0 0) (.slice none 0 0)).setCell (p := ⟨X + 1, 0, none⟩) (show X ≤ X + 1 by omega) (.int .i64 6)
  go_wp2_with fail
  clear q0 q1 q2 q3 q4 q5 z0 z1 z2 z3 z4 z5 k1 f1 hO9 hB9
  generalize World.setCell _ ⟨X + 1, 0, none⟩ _ = w10 at *
  refine leaves_cons (f := 54) (args := #[.pointer (some ⟨X, 0, none⟩), .pointer (some ⟨X + 1, 0, none⟩)]) (by simp) (by simp [go_sem]) ?_
  refine (get_idle _ _ _).mono ?_
  rintro e u' w'' ⟨rfl, rfl, rfl⟩
  simp only [settle]
  refine ⟨_, results_out2 rfl _ _ _ X _ _ _ rfl rfl hO10 Tryz.underlying27 (by kernel_rfl) (load_errno hO10.e), ?_⟩
  rw [← HQ.out]
  exact ⟨by rw [HN.out]; exact rfl, by rw [HX.out]; exact hB10⟩
 subst ce0
 have HY : Hid (ugetD s.data.toList = some ⟨m, v, a, b, c, d⟩) := Lib.hid (by rw [HEE.out]; exact if_pos ⟨rfl, rfl⟩)
 clear HEE hl6 hee
 have hO10 := hO9.six (.string m) (.int .i64 v) (.slice lo a.length lc) (.slice fo b.length fc) (.slice go c.length gc) (.slice co d.length cc) (.int .i64 0)
 have hB10 : Below X w _ := (below6 hB9 (.string m) (.int .i64 v) (.slice lo a.length lc) (.slice fo b.length fc) (.slice go c.length gc) (.slice co d.length cc)).setCell (p := ⟨X + 1, 0, none⟩) (show X ≤ X + 1 by omega) (.int .i64 0)
 have HF := Lib.hid (six_far X w9 (.string m) (.int .i64 v) (.slice lo a.length lc) (.slice fo b.length fc) (.slice go c.length gc) (.slice co d.length cc) (.int .i64 0))
 go_wp2_with fail
 clear q0 q1 q2 q3 q4 q5 z0 z1 z2 z3 z4 z5 k1 f1 hO9 hB9
 generalize World.setCell _ ⟨X + 1, 0, none⟩ _ = w10 at *
 obtain ⟨s1, s2, s3, s4, hok⟩ := HSS.out
 have hk : ∀ b, X + 3 ≤ b → b < w8.heap.size → w10.heap[b]? = w8.heap[b]? := fun b hb hl => (HF.out.1 b hb).trans (HBL.out.block b hl)
 have hz : w8.heap.size ≤ w10.heap.size := Nat.le_trans hle9 HF.out.2
 have hup := up_of (u := ⟨m, v, a, b, c, d⟩) hok (s1.onKeep hz hk (fun b h _ => h)) (s2.kept hz hk (fun b h _ => h) (fun _ _ h => h)) (s3.kept hz hk (fun b h _ => h) (fun _ _ h => h)) (s4.onKeep hz hk (fun b h _ => h))
 refine leaves_cons (f := 54) (args := #[.pointer (some ⟨X, 0, none⟩), .pointer (some ⟨X + 1, 0, none⟩)]) (by simp) (by simp [go_sem]) ?_
 refine (get_idle _ _ _).mono ?_
 rintro e u' w'' ⟨rfl, rfl, rfl⟩
 simp only [settle]
 refine ⟨_, results_out2 rfl _ _ _ X _ _ _ rfl rfl hO10 Tryz.underlying27 (by kernel_rfl) (load_errno hO10.e), ?_⟩
 rw [← HQ.out]
 refine ⟨?_, by rw [HX.out]; exact hB10⟩
 rw [HY.out]
 exact ⟨lo, lc, fo, fc, go, gc, co, cc, rfl, hup.1, hup.2⟩
end Go.Proofs.YtghgbikmlbildaaGreatDoor
namespace Go.Proofs.YtghgbikmlbildaaGreatDoor
open Go.RowKit
set_option linter.unusedVariables false
set_option linter.unusedSimpArgs false

theorem rowT_src : ∀ k, (h : k < 41) → hasB (rowT[k]'h).1.toNat 2 = false → (rowT[k]'h).2.2 = 0 := by decide
theorem rowAt_src {op : Int} (h : 1 ≤ op ∧ op ≤ 40) : hasB (rowAt op).1.toNat 2 = false → (rowAt op).2.2 = 0 := by
 obtain ⟨k, rfl⟩ : ∃ k : Nat, op = (k : Int) := ⟨op.toNat, by omega⟩
 have hk : k < 41 := by omega
 have hra : rowAt (k : Int) = rowT[k]'hk := by unfold rowAt; rw [Int.toNat_natCast, List.getElem?_eq_getElem (by exact hk)]; rfl
 rw [hra]
 exact rowT_src k hk
theorem insD_dec {u : RUnit} {i : Nat} {x : RIns} (ht : TabOk u) (hb : insB u i x = true) (l : List UInt8) : insD (insW x ++ l) = some (x, l) := by
 have hw := ins_ok ht hb
 unfold insB at hb
 simp only [Bool.and_eq_true] at hb
 obtain ⟨h0, h1, -⟩ := hb
 have hop : 1 ≤ x.op ∧ x.op ≤ 40 := by unfold opOk at h0; exact of_decide_eq_true h0
 have hs := rowAt_src hop
 unfold insD insW instrW
 rw [List.append_assoc, intD_dec _ (by omega) (by omega), Option.bind_some, if_pos hop]
 generalize (rowAt x.op).1.toNat = h at *
 unfold fieldsB at h1
 simp only [Bool.and_eq_true] at h1
 obtain ⟨f1, f2, f3, f4, f5, f6, f7, f8, f9, f10⟩ := h1
 have w3 := wi_iff f3
 unfold insG srcW casesW segsW
 simp only [List.append_assoc]
 rw [optD_dec (a := x.dst) (z := (⟨0, 0⟩ : RArg)) _ (fun e => by
   unfold dstB at f1
   rw [if_neg (by rw [e]; decide), Bool.and_eq_true, decide_eq_true_eq, decide_eq_true_eq] at f1
   obtain ⟨d1, d2⟩ := f1
   generalize x.dst = d at *
   obtain ⟨dk, dn⟩ := d
   simp only at d1 d2; rw [d1, d2]) (fun e => argD_dec _ (hw.dst e)), Option.bind_some,
  optD_dec (a := x.src) (z := ([] : List RArg)) (W := fun zs => vint zs.length ++ zs.flatMap argW) _ (fun e => by have := hs e; exact List.length_eq_zero_iff.1 (by omega)) (fun e => by
   simp only [List.append_assoc]; exact listD_dec _ (by have := hw.srcLen; omega) fun a ha l => argD_dec l (hw.src a ha)), Option.bind_some,
  optD_dec (a := x.n) (z := (0 : Int)) (W := fun n => vint n.toNat) _ (fun e => by rw [e, Bool.false_or] at f5; exact eq_of_beq f5) (fun e => intD_dec _ hw.n0 (by have := hw.n1; omega)), Option.bind_some,
  optD_dec (a := x.name) (z := (⟨#[]⟩ : ByteArray)) (W := textW) _ (fun e => by
   rw [e, Bool.false_or, List.isEmpty_iff] at f6
   have := toList_size x.name; rw [f6] at this
   exact bz this.symm) (fun e => textD_dec _ (by have := hw.name; omega)), Option.bind_some,
  optD_dec (a := x.cases) (z := ([] : List RCase)) (W := fun zs => vint zs.length ++ zs.flatMap caseW) _ (fun e => by rw [e, Bool.false_or] at f9; exact List.length_eq_zero_iff.1 (eq_of_beq f9)) (fun e => by
   simp only [List.append_assoc]; exact listD_dec _ (by have := hw.casesLen; omega) fun a ha l => caseD_dec l (hw.cases a ha)), Option.bind_some,
  optD_dec (a := x.segs) (z := ([] : List RSeg)) (W := fun zs => vint zs.length ++ zs.flatMap segW) _ (fun e => by rw [e, Bool.false_or] at f10; exact List.length_eq_zero_iff.1 (eq_of_beq f10)) (fun e => by
   simp only [List.append_assoc]; exact listD_dec _ (by have := hw.segsLen; omega) fun a ha l => segD_dec l (hw.segs a ha)), Option.bind_some,
  optD_dec (a := x.to) (z := (0 : Int)) (W := fun n => vint n.toNat) _ (fun e => by rw [e, Bool.false_or] at f7; exact eq_of_beq f7) (fun e => intD_dec _ hw.to0 (by have := hw.to1; omega)), Option.bind_some,
  optD_dec (a := x.live) (z := (0 : Int)) (W := fun n => vint n.toNat) _ (fun e => by rw [e, Bool.false_or] at f8; exact eq_of_beq f8) (fun e => intD_dec _ hw.live0 (by have := hw.live1; omega)), Option.bind_some]
/-- A term's depth is at most the number of its parts. -/
theorem deep_map {f g : Nat} (H : ∀ (t : Tm), formF f t = true → nodesF f t ≤ g → formF g t = true ∧ nodesF g t = nodesF f t ∧ wholeF g t = wholeF f t ∧ codeE g t = codeE f t ∧ (OkF f t → OkF g t)) :
  ∀ (ts : List Tm), (∀ x ∈ ts, formF f x = true) → (ts.map (nodesF f)).sum ≤ g → (∀ x ∈ ts, formF g x = true) ∧ ts.map (nodesF g) = ts.map (nodesF f) ∧ ts.map (wholeF g) = ts.map (wholeF f) ∧ ts.flatMap (codeE g) = ts.flatMap (codeE f) ∧ ((∀ x ∈ ts, OkF f x) → ∀ x ∈ ts, OkF g x)
 | [], _, _ => ⟨fun x hx => absurd hx (by simp), rfl, rfl, rfl, fun _ x hx => absurd hx (by simp)⟩
 | t :: ts, hf, hn => by
  rw [List.map_cons, List.sum_cons] at hn
  obtain ⟨a1, a2, a3, a4, a5⟩ := H t (hf t (List.mem_cons_self ..)) (by omega)
  obtain ⟨b1, b2, b3, b4, b5⟩ := deep_map H ts (fun x hx => hf x (List.mem_cons_of_mem _ hx)) (by omega)
  refine ⟨fun x hx => ?_, by simp only [List.map_cons, a2, b2], by simp only [List.map_cons, a3, b3], by simp only [List.flatMap_cons, a4, b4], fun ho x hx => ?_⟩
  ·rcases List.mem_cons.1 hx with rfl | hx
   ·exact a1
   ·exact b1 x hx
  ·rcases List.mem_cons.1 hx with rfl | hx
   ·exact a5 (ho _ (List.mem_cons_self ..))
   ·exact b5 (fun y hy => ho y (List.mem_cons_of_mem _ hy)) x hx
theorem deep_of : ∀ (f g : Nat) (t : Tm), formF f t = true → nodesF f t ≤ g → formF g t = true ∧ nodesF g t = nodesF f t ∧ wholeF g t = wholeF f t ∧ codeE g t = codeE f t ∧ (OkF f t → OkF g t)
 | 0, g, t, h, _ => absurd h (by simp [formF])
 | f + 1, g, t, h, hn => by
  have h' := h
  unfold formF at h'
  rw [Bool.and_eq_true, List.all_eq_true] at h'
  unfold nodesF at hn
  obtain ⟨g, rfl⟩ : ∃ g', g = g' + 1 := ⟨g - 1, by omega⟩
  obtain ⟨b1, b2, b3, b4, b5⟩ := deep_map (f := f) (g := g) (fun t => deep_of f g t) t.items h'.2 (by omega)
  refine ⟨?_, ?_, ?_, ?_, fun ho => ⟨ho.1, b5 ho.2⟩⟩
  ·unfold formF; rw [Bool.and_eq_true, List.all_eq_true]; exact ⟨h'.1, b1⟩
  ·unfold nodesF; rw [b2]
  ·unfold wholeF; rw [b3]
  ·unfold codeE; rw [b4]
theorem valid_deep {f : Nat} {t : Tm} (h : validF f t = true) : validF 2000 t = true ∧ codeE 2000 t = codeE f t ∧ (OkF f t → OkF 2000 t) := by
 unfold validF at h ⊢
 rw [Bool.and_eq_true, decide_eq_true_eq] at h
 have := nodes_whole f t h.1
 obtain ⟨a1, a2, a3, a4, a5⟩ := deep_of f 2000 t h.1 (by omega)
 exact ⟨by rw [Bool.and_eq_true, decide_eq_true_eq, a3]; exact ⟨a1, h.2⟩, a4, a5⟩
theorem wtakeD_dec {t : Tm} (hv : validF 2000 t = true) (ho : OkF 2000 t) (l : List UInt8) : wtakeD (codeE 2000 t ++ l) = some (t, l) := by
 unfold wtakeD
 rw [valid_dec hv ho, Option.bind_some]
 exact if_pos hv
theorem wgetD_dec {t : Tm} (hv : validF 2000 t = true) (ho : OkF 2000 t) : wgetD (putE 2000 t) = some t := by
 have := wtakeD_dec hv ho []
 rw [List.append_nil] at this
 change (if (131 : UInt8).toNat = 131 then (wtakeD (codeE 2000 t)).bind fun x => if x.2 = [] then some x.1 else none else none) = some t
 rw [if_pos (show (131 : UInt8).toNat = 131 from rfl), this, Option.bind_some, if_pos rfl]
theorem litD_dec {t : Tm} (hv : validF 2000 t = true) (ho : OkF 2000 t) (hs : (encW 2000 t).size < 4398046511104) (l : List UInt8) : litD (textW (encW 2000 t) ++ l) = some (t, l) := by
 unfold litD
 rw [textD_dec l hs, Option.bind_some, show (encW 2000 t).data.toList = putE 2000 t from rfl, wgetD_dec hv ho, Option.bind_some]
theorem unitD_dec {u : RUnit} (hc : checkE 2000 u = 0) (ho : ∀ t ∈ u.lits, OkF 2000 t) (hs : ∀ t ∈ u.lits, (encW 2000 t).size < 4398046511104) (l : List UInt8) : unitD (unitW (encW 2000) u ++ l) = some (u, l) := by
 obtain ⟨ht, htb, hi⟩ := check_ok hc
 have hv := lits_valid htb
 unfold unitD unitW
 simp only [List.append_nil, List.append_assoc]
 rw [textD_dec _ (by have := ht.mdl; omega), Option.bind_some, intD_dec _ (by have := ht.vsn0; omega) (by have := ht.vsn1; omega), Option.bind_some,
  listD_dec (E := fun t => textW (encW 2000 t)) _ (by have := ht.lits; omega) (fun t h l => litD_dec (hv t h) (ho t h) (hs t h) l), Option.bind_some,
  listD_dec (E := funcW) _ (by have := ht.funcs; omega) (fun g h l => funcD_dec l (ht.func g h)), Option.bind_some,
  listD_dec (E := funW) _ (by have := ht.funs; omega) (fun g h l => fnD_dec l (ht.fn g h)), Option.bind_some,
  listD_dec (E := insW) _ (by have := ht.code1; omega) (fun x h l => by
   obtain ⟨k, hk, rfl⟩ := List.getElem_of_mem h
   exact insD_dec ht (hi k hk) l), Option.bind_some]
theorem ugetD_dec {u : RUnit} (hc : checkE 2000 u = 0) (ho : ∀ t ∈ u.lits, OkF 2000 t) (hs : ∀ t ∈ u.lits, (encW 2000 t).size < 4398046511104) : ugetD (unitW (encW 2000) u) = some u := by
 have := unitD_dec hc ho hs []
 rw [List.append_nil] at this
 unfold ugetD
 rw [this, Option.bind_some, if_pos ⟨rfl, hc⟩]
end Go.Proofs.YtghgbikmlbildaaGreatDoor
namespace Go.Proofs.YtghgbikmlbildaaGreatDoor
open Go.RowKit
set_option linter.unusedVariables false
set_option linter.unusedSimpArgs false

theorem enc_small {t : Tm} (hv : validF 2000 t = true) : (encW 2000 t).size < 4398046511104 := by
 have h := putE_len hv
 show (putE 2000 t).toArray.size < _
 rw [List.size_toArray]; omega
theorem unitD_of {u : RUnit} (hc : checkE 2000 u = 0) (ho : ∀ t ∈ u.lits, OkF 2000 t) (l : List UInt8) : unitD (unitW (encW 2000) u ++ l) = some (u, l) :=
 unitD_dec hc ho (fun t ht => enc_small (lits_valid (check_ok hc).2.1 t ht)) l
theorem ugetD_of {u : RUnit} (hc : checkE 2000 u = 0) (ho : ∀ t ∈ u.lits, OkF 2000 t) : ugetD (unitW (encW 2000) u) = some u :=
 ugetD_dec hc ho (fun t ht => enc_small (lits_valid (check_ok hc).2.1 t ht))
theorem uget_unit {l : List UInt8} {u : RUnit} (h : ugetD l = some u) (m : List UInt8) : unitD (l ++ m) = some (u, m) := by
 obtain ⟨h1, h2, h3⟩ := ugetD_enc h
 rw [h1]
 exact unitD_of h2 (fun t ht => (h3.lits t ht).2) m
theorem uget_cut {u : RUnit} (hc : checkE 2000 u = 0) (ho : ∀ t ∈ u.lits, OkF 2000 t) {k : Nat} (hk : k < (unitW (encW 2000) u).length) : ugetD ((unitW (encW 2000) u).take k) = none := by
 cases h : ugetD ((unitW (encW 2000) u).take k) with
 | none => rfl
 | some v =>
  have h1 := uget_unit h ((unitW (encW 2000) u).drop k)
  rw [List.take_append_drop] at h1
  have h2 := unitD_of hc ho []
  rw [List.append_nil, h1] at h2
  simp only [Option.some.injEq, Prod.mk.injEq] at h2
  have h3 := congrArg List.length h2.2
  rw [List.length_drop] at h3
  simp at h3; omega
theorem uget_more {u : RUnit} (hc : checkE 2000 u = 0) (ho : ∀ t ∈ u.lits, OkF 2000 t) (c : UInt8) : ugetD (unitW (encW 2000) u ++ [c]) = none := by
 cases h : ugetD (unitW (encW 2000) u ++ [c]) with
 | none => rfl
 | some v =>
  have h1 := uget_unit h []
  rw [List.append_nil, unitD_of hc ho [c]] at h1
  simp at h1
theorem unitW_len {u : RUnit} (hc : checkE 2000 u = 0) (hl : u.lits.length ≤ 400) : (unitW (encW 2000) u).length ≤ 60000000000 := by
 obtain ⟨ht, htb, hi⟩ := check_ok hc
 have hv := lits_valid htb
 have a1 := textW_len u.mdl
 have a2 := vint_len u.vsn.toNat
 have a3 := vint_len u.lits.length
 have a4 := flat_len (fun t => textW (encW 2000 t)) 4400100 u.lits (fun t h => by
  have a := textW_len (encW 2000 t)
  have b := putE_len (hv t h)
  have c : (encW 2000 t).size = (putE 2000 t).length := by show (putE 2000 t).toArray.size = _; rw [List.size_toArray]
  omega)
 have a5 := vint_len u.funcs.length
 have a6 := flat_len funcW 80 u.funcs (fun g h => by have := funcW_len g; have := (ht.func g h).1; omega)
 have a7 := vint_len u.funs.length
 have a8 := flat_len funW 30 u.funs fun g _ => funW_len g
 have a9 := vint_len u.code.length
 have a0 := flat_len insW 100000 u.code (fun x h => by
  obtain ⟨k, hk, rfl⟩ := List.getElem_of_mem h
  exact instrW_len (ins_ok ht (hi k hk)))
 have b1 := ht.mdl; have b2 := ht.funcs; have b3 := ht.funs; have b4 := ht.code1
 unfold unitW
 simp only [List.length_append, List.length_nil]
 generalize (u.lits.flatMap fun t => textW (encW 2000 t)).length = z1 at *
 generalize (u.funcs.flatMap funcW).length = z2 at *
 generalize (u.funs.flatMap funW).length = z3 at *
 generalize (u.code.flatMap insW).length = z4 at *
 omega
theorem unit_deep {f : Nat} {u : RUnit} (hc : checkE f u = 0) : checkE 2000 u = 0 ∧ unitW (encW f) u = unitW (encW 2000) u := by
 obtain ⟨-, htb, -⟩ := check_ok hc
 have hv := lits_valid htb
 have ht2 : tablesB 2000 u = true := by
  unfold tablesB at htb ⊢
  rw [Bool.and_eq_true, Bool.and_eq_true] at htb ⊢
  exact ⟨htb.1, List.all_eq_true.2 fun t ht => (valid_deep (hv t ht)).1, htb.2.2⟩
 refine ⟨?_, ?_⟩
 ·unfold checkE at hc ⊢
  rw [if_pos htb] at hc
  rw [if_pos ht2]; exact hc
 ·unfold unitW
  congr 3
  have : ∀ (l : List Tm), (∀ t ∈ l, validF f t = true) → l.flatMap (fun t => textW (encW f t)) = l.flatMap (fun t => textW (encW 2000 t)) := by
   intro l
   induction l with
   | nil => exact fun _ => rfl
   | cons t l ih =>
    intro h
    rw [List.flatMap_cons, List.flatMap_cons, ih fun x hx => h x (List.mem_cons_of_mem _ hx)]
    congr 2
    unfold encW putE
    rw [(valid_deep (h t (List.mem_cons_self ..))).2.1]
  rw [this u.lits hv]
theorem TmAt.okF {w : World} : ∀ {f : Nat} {cs : List Value} {t : Tm}, TmAt w f cs t → OkF f t
 | 0, _, _, h => h
 | f + 1, _, t, ⟨⟨ao, c, e, hs⟩, ho⟩ => ⟨ho, fun x hx => by
   obtain ⟨j, hj, rfl⟩ := List.getElem_of_mem hx
   obtain ⟨b, off, -, -, hr⟩ := hs.row hj
   obtain ⟨cs', -, -, hR⟩ := hr j hj
   exact TmAt.okF hR⟩
theorem lits_okF {w : World} {f : Nat} {lo : Option Addr} {ts : List Tm} (h : SlAt w 9 (TmAt w f) lo ts) : ∀ t ∈ ts, OkF f t := fun t ht => by
 obtain ⟨j, hj, rfl⟩ := List.getElem_of_mem ht
 obtain ⟨b, off, -, -, hr⟩ := h.row hj
 obtain ⟨cs', -, -, hR⟩ := hr j hj
 exact hR.okF
end Go.Proofs.YtghgbikmlbildaaGreatDoor
namespace Go.Proofs.YtghgbikmlbildaaGreatDoor
open Go.RowKit
set_option linter.unusedVariables false
set_option linter.unusedSimpArgs false

/-- The reference's Same of a term with itself, its parts being of a depth. -/
def RSameP (f : Nat) : Prop := ∀ (t : Tm) (ao bo : Option Addr) (c d : Nat) (w : World), SlAt w 9 (TmAt w f) ao t.items → SlAt w 9 (TmAt w f) bo t.items → t.items.length ≤ maxLen →
 Calls Tryz.prog 66 #[.agg #[.int .i64 t.kind, .int .i64 t.int, .int .i64 t.gen, .string t.name, .string t.func, .int .i64 t.arity, .slice ao t.items.length c, .string t.bytes, .int .i64 t.bits],
   .agg #[.int .i64 t.kind, .int .i64 t.int, .int .i64 t.gen, .string t.name, .string t.func, .int .i64 t.arity, .slice bo t.items.length d, .string t.bytes, .int .i64 t.bits]] w fun e w' => e = .returned (.bool true) ∧ Below w.heap.size w w'
def RSameLP (f : Nat) : Prop := ∀ (l : List Tm) (ao bo : Option Addr) (c d : Nat) (w : World), SlAt w 9 (TmAt w f) ao l → SlAt w 9 (TmAt w f) bo l → l.length ≤ maxLen →
 Calls Tryz.prog 113 #[.slice ao l.length c, .slice bo l.length d] w fun e w' => e = .returned (.bool true) ∧ Below w.heap.size w w'
set_option maxRecDepth 100000 in
set_option maxHeartbeats 8000000 in
theorem rsame_of {f : Nat} (HP : Hid (RSameLP f)) : RSameP f := by
 intro t ao bo c d w ha hb hl
 have hbe := two_below w (.cells #[.int .i64 t.kind, .int .i64 t.int, .int .i64 t.gen, .string t.name, .string t.func, .int .i64 t.arity, .slice ao t.items.length c, .string t.bytes, .int .i64 t.bits] 78) (.cells #[.int .i64 t.kind, .int .i64 t.int, .int .i64 t.gen, .string t.name, .string t.func, .int .i64 t.arity, .slice bo t.items.length d, .string t.bytes, .int .i64 t.bits] 78)
 have r0 := two0 w (.cells #[.int .i64 t.kind, .int .i64 t.int, .int .i64 t.gen, .string t.name, .string t.func, .int .i64 t.arity, .slice ao t.items.length c, .string t.bytes, .int .i64 t.bits] 78) (.cells #[.int .i64 t.kind, .int .i64 t.int, .int .i64 t.gen, .string t.name, .string t.func, .int .i64 t.arity, .slice bo t.items.length d, .string t.bytes, .int .i64 t.bits] 78)
 have r1 := two1 w (.cells #[.int .i64 t.kind, .int .i64 t.int, .int .i64 t.gen, .string t.name, .string t.func, .int .i64 t.arity, .slice ao t.items.length c, .string t.bytes, .int .i64 t.bits] 78) (.cells #[.int .i64 t.kind, .int .i64 t.int, .int .i64 t.gen, .string t.name, .string t.func, .int .i64 t.arity, .slice bo t.items.length d, .string t.bytes, .int .i64 t.bits] 78)
 have hL := fun wx (hx : Below w.heap.size w wx) => HP.out t.items ao bo c d wx (ha.tms hx) (hb.tms hx) hl
 have HL := Lib.hid hL
 clear hL ha hb hl HP
 go_enter Tryz.func66, Tryz.ntmps66
 go_upto_region 1 with fail
 generalize World.alloc _ _ = w2 at *
 have HB := Lib.hid hbe
 obtain ⟨q0, q1, q2, q3, q4, q5, q6, q7, q8, z0, z1, z2, z3, z4, z5, z6, z7, z8⟩ := term_cells r0
 obtain ⟨x0, x1, x2, x3, x4, x5, x6, x7, x8, y0, y1, y2, y3, y4, y5, y6, y7, y8⟩ := term_cells r1
 clear r0 r1 hbe
 go_wp2_with (go_at_call 113; refine (HL.out w2 HB.out).mono ?_; rintro e w3 ⟨rfl, hb3⟩)
 go_ret
 exact ⟨rfl, below_next HB.out hb3⟩
set_option maxRecDepth 100000 in
set_option maxHeartbeats 8000000 in
theorem rsamel_zero : RSameLP 0 := by
 intro l ao bo c d w ha hb hl
 obtain rfl := ha.zero
 clear ha hb hl
 go_enter Tryz.func113, Tryz.ntmps113
 go_wp2_with fail
 go_loop [5] (fun i => i = .int .i64 0) (fun _ => 0)
 case atStart => rfl
 case round =>
  obtain rfl := hrel
  go_wp2_with fail
  go_ret
  exact ⟨rfl, Below.refl _ _⟩
set_option maxRecDepth 100000 in
set_option maxHeartbeats 8000000 in
theorem rsamel_succ {f : Nat} (HQ : Hid (RSameP f)) : RSameLP (f + 1) := by
 intro l ao bo c d w ha hb hl
 unfold maxLen at hl
 have HA := Lib.hid ha; have HB := Lib.hid hb
 clear ha hb
 go_enter Tryz.func113, Tryz.ntmps113
 go_wp2_with fail
 go_loopw [5] (fun iv wr => ∃ k : Nat, k ≤ l.length ∧ iv = .int .i64 k ∧ Below w.heap.size w wr) (fun iv _ => l.length - (intOf iv).toNat)
 case atStart => exact ⟨0, Nat.zero_le _, rfl, Below.refl _ _⟩
 case round =>
  obtain ⟨k, hk, rfl, hbr⟩ := hrel
  rename World => wr
  by_cases hlt : k < l.length
  ·obtain ⟨b1, off1, ai, ci, hao, hb1, q0, q1, q2, q3, q4, q5, q6, q7, q8, hit, hok⟩ := (HA.out.tms hbr).tm hlt
   obtain ⟨b2, off2, bi, di, hbo, hb2, p0, p1, p2, p3, p4, p5, p6, p7, p8, hit2, hok2⟩ := (HB.out.tms hbr).tm hlt
   subst hao; subst hbo
   have hSM := HQ.out l[k] ai bi ci di wr.drew (hit.tms (Below.refl _ _).drew) (hit2.tms (Below.refl _ _).drew) hok.2.2.2.2.2.2.1
   have HBR := Lib.hid hbr
   clear hit hit2 hok hok2 hbr
   generalize l[k] = x at *
   go_wp2_with fail
   first | go_region_held3 (fun w' => (w'.cell? ⟨b1, off1 + k * 9, none⟩ = some (.int .i64 x.kind) ∧ w'.cell? ⟨b1, off1 + k * 9 + 1, none⟩ = some (.int .i64 x.int) ∧ w'.cell? ⟨b1, off1 + k * 9 + 2, none⟩ = some (.int .i64 x.gen) ∧ w'.cell? ⟨b1, off1 + k * 9 + 3, none⟩ = some (.string x.name) ∧ w'.cell? ⟨b1, off1 + k * 9 + 4, none⟩ = some (.string x.func) ∧ w'.cell? ⟨b1, off1 + k * 9 + 5, none⟩ = some (.int .i64 x.arity) ∧ w'.cell? ⟨b1, off1 + k * 9 + 6, none⟩ = some (.slice ai x.items.length ci) ∧ w'.cell? ⟨b1, off1 + k * 9 + 7, none⟩ = some (.string x.bytes) ∧ w'.cell? ⟨b1, off1 + k * 9 + 8, none⟩ = some (.int .i64 x.bits)) ∧ (w'.cell? ⟨b2, off2 + k * 9, none⟩ = some (.int .i64 x.kind) ∧ w'.cell? ⟨b2, off2 + k * 9 + 1, none⟩ = some (.int .i64 x.int) ∧ w'.cell? ⟨b2, off2 + k * 9 + 2, none⟩ = some (.int .i64 x.gen) ∧ w'.cell? ⟨b2, off2 + k * 9 + 3, none⟩ = some (.string x.name) ∧ w'.cell? ⟨b2, off2 + k * 9 + 4, none⟩ = some (.string x.func) ∧ w'.cell? ⟨b2, off2 + k * 9 + 5, none⟩ = some (.int .i64 x.arity) ∧ w'.cell? ⟨b2, off2 + k * 9 + 6, none⟩ = some (.slice bi x.items.length di) ∧ w'.cell? ⟨b2, off2 + k * 9 + 7, none⟩ = some (.string x.bytes) ∧ w'.cell? ⟨b2, off2 + k * 9 + 8, none⟩ = some (.int .i64 x.bits))) (((repeat' apply And.intro) <;> assumption)) ((go_at_call 66; refine hSM.mono ?_; rintro e w5 ⟨rfl, hb5⟩; have r0 := (hb5.cell (p := ⟨b1, off1 + k * 9, none⟩) hb1).trans q0; have r1 := (hb5.cell (p := ⟨b1, off1 + k * 9 + 1, none⟩) hb1).trans q1; have r2 := (hb5.cell (p := ⟨b1, off1 + k * 9 + 2, none⟩) hb1).trans q2; have r3 := (hb5.cell (p := ⟨b1, off1 + k * 9 + 3, none⟩) hb1).trans q3; have r4 := (hb5.cell (p := ⟨b1, off1 + k * 9 + 4, none⟩) hb1).trans q4; have r5 := (hb5.cell (p := ⟨b1, off1 + k * 9 + 5, none⟩) hb1).trans q5; have r6 := (hb5.cell (p := ⟨b1, off1 + k * 9 + 6, none⟩) hb1).trans q6; have r7 := (hb5.cell (p := ⟨b1, off1 + k * 9 + 7, none⟩) hb1).trans q7; have r8 := (hb5.cell (p := ⟨b1, off1 + k * 9 + 8, none⟩) hb1).trans q8; have s0 := (hb5.cell (p := ⟨b2, off2 + k * 9, none⟩) hb2).trans p0; have s1 := (hb5.cell (p := ⟨b2, off2 + k * 9 + 1, none⟩) hb2).trans p1; have s2 := (hb5.cell (p := ⟨b2, off2 + k * 9 + 2, none⟩) hb2).trans p2; have s3 := (hb5.cell (p := ⟨b2, off2 + k * 9 + 3, none⟩) hb2).trans p3; have s4 := (hb5.cell (p := ⟨b2, off2 + k * 9 + 4, none⟩) hb2).trans p4; have s5 := (hb5.cell (p := ⟨b2, off2 + k * 9 + 5, none⟩) hb2).trans p5; have s6 := (hb5.cell (p := ⟨b2, off2 + k * 9 + 6, none⟩) hb2).trans p6; have s7 := (hb5.cell (p := ⟨b2, off2 + k * 9 + 7, none⟩) hb2).trans p7; have s8 := (hb5.cell (p := ⟨b2, off2 + k * 9 + 8, none⟩) hb2).trans p8)) | fail
   go_wp2_with fail
   go_roundw
   case rel => exact ⟨k + 1, by omega, by go_num, HBR.out.drew.trans (hb5.mono HBR.out.size)⟩
   case measure => simp [intOf]; omega
  ·go_wp2_with fail
   go_ret
   exact ⟨rfl, hbr⟩
theorem rsamel_all : ∀ f, RSameLP f
 | 0 => rsamel_zero
 | f + 1 => rsamel_succ (Lib.hid (rsame_of (Lib.hid (rsamel_all f))))
theorem rsame_any (f : Nat) : RSameP f := rsame_of (Lib.hid (rsamel_all f))
end Go.Proofs.YtghgbikmlbildaaGreatDoor
