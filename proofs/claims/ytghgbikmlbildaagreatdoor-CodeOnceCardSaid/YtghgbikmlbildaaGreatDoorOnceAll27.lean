/-
  code.Get: the walk (printed by gen_kget.py). CodeOnce: the walk. From the row's listed variables to the tables that the walks ask for; the witness' heap. A unit that came in: from the argument's reading to the plain unit.
-/
import Derived.Test.YtghgbikmlbildaaGreatDoorRows
import Derived.Lib.LaidU8
import Derived.Stop.LaidErr
import Derived.Test.YtghgbikmlbildaaGreatDoorOnceAll02
import Derived.Test.YtghgbikmlbildaaGreatDoorOnceAll10
import Derived.Test.YtghgbikmlbildaaGreatDoorOnceAll13
import Derived.Test.YtghgbikmlbildaaGreatDoorOnceAll15
import Derived.Test.YtghgbikmlbildaaGreatDoorOnceAll19
import Derived.Test.YtghgbikmlbildaaGreatDoorOnceAll26
namespace Go.Proofs.YtghgbikmlbildaaGreatDoor
open Go.RowKit
set_option linter.unusedVariables false
set_option linter.unusedSimpArgs false

/-- What code.Get may end in. -/
def UGetQ (s : ByteArray) (w : World) (e : Ending) (w' : World) : Prop :=
 (match ugetD s.data.toList with
 | none => e = .returned (.tuple #[.agg zeroU, .int .i64 6])
 | some u => ∃ lo lc fo fc go gc co cc, e = .returned (.tuple #[.agg #[.string u.mdl, .int .i64 u.vsn, .slice lo u.lits.length lc, .slice fo u.funcs.length fc, .slice go u.funs.length gc, .slice co u.code.length cc], .int .i64 0]) ∧ UP w' u lo fo go co ∧ SlAt w' 9 (TmAt w' 2000) lo u.lits) ∧ Below w.heap.size w w'
theorem results_out2 {fn : Func} {p u : Tmp} {ty t2 : TypeId} (h : fn.results = #[.cell p ty, .cell u t2]) (tmps : Array Value) (P : Program) (w : World) (X : Nat) (cs : Array Value) (e : Value) (fs : Array Field)
  (hp : tmps.getD p undef = .pointer (some ⟨X, 0, none⟩)) (hu : tmps.getD u undef = .pointer (some ⟨X + 1, 0, none⟩)) (ho : Out2 X w cs e)
  (hty : P.underlying ty = some (.struct fs)) (hi : (P.info? ty).map (·.size) = some cs.size) (h2 : (loadVar t2 ⟨X + 1, 0, none⟩).run P w = .ok e w) :
  (results fn tmps).run P w = .ok (.tuple #[.agg cs, e]) w := by
 have hl := run_loadVar_row w X 27 ty cs (0, 0) (.struct fs) ho.x hty rfl hi
 have hp' : tmps[p]?.getD undef = .pointer (some ⟨X, 0, none⟩) := by simpa using hp
 have hu' : tmps[u]?.getD undef = .pointer (some ⟨X + 1, 0, none⟩) := by simpa using hu
 simp [results, h, hp', hu', asAddr, hl, h2]
theorem three_blocks (w : World) (o0 o1 o2 : Obj) : (((w.alloc o0).alloc o1).alloc o2).heap[w.heap.size]? = some o0 ∧ (((w.alloc o0).alloc o1).alloc o2).heap[w.heap.size + 1]? = some o1 ∧ (((w.alloc o0).alloc o1).alloc o2).heap[w.heap.size + 2]? = some o2 := by
 have n0 := heap_alloc_new w o0
 have n1 := heap_alloc_new (w.alloc o0) o1
 have n2 := heap_alloc_new ((w.alloc o0).alloc o1) o2
 rw [show (w.alloc o0).heap.size = w.heap.size + 1 by simp] at n1
 rw [show ((w.alloc o0).alloc o1).heap.size = w.heap.size + 2 by simp] at n2
 refine ⟨?_, ?_, n2⟩
 ·rw [Below.heap_alloc _ _ _ (by simp; omega), Below.heap_alloc _ _ _ (by simp)]; exact n0
 ·rw [Below.heap_alloc _ _ _ (by simp)]; exact n1
/-- Get at work: block X is the unit's, X + 1 the error's, X + 2 the reader. -/
structure GSt (w0 : World) (X : Nat) (l : List UInt8) (m : ByteArray) (v : Int) (a : List Tm) (b : List RFunc) (c : List RFun) (d : List RIns) (wx : World) : Prop where
 rd : RdC (X + 2) l wx
 bel : Below X w0 wx
 y : ∃ lo lc fo fc go gc co cc, Out2 X wx #[.string m, .int .i64 v, .slice lo a.length lc, .slice fo b.length fc, .slice go c.length gc, .slice co d.length cc] (.int .i64 0) ∧ SlIn wx (X + 3 ≤ ·) 9 (Way.tm.on wx (X + 3 ≤ ·)) lo a ∧ SlIn wx (X + 3 ≤ ·) 4 FuncR fo b ∧ SlIn wx (X + 3 ≤ ·) 3 FunR go c ∧ SlIn wx (X + 3 ≤ ·) 10 (Way.ins.on wx (X + 3 ≤ ·)) co d
theorem GSt.lt {w0 : World} {X : Nat} {l : List UInt8} {m : ByteArray} {v : Int} {a : List Tm} {b : List RFunc} {c : List RFun} {d : List RIns} {wx : World} (S : GSt w0 X l m v a b c d wx) : X + 2 < wx.heap.size := S.rd.lt
theorem GSt.call {w0 : World} {X : Nat} {l : List UInt8} {m : ByteArray} {v : Int} {a : List Tm} {b : List RFunc} {c : List RFun} {d : List RIns} {wx wy : World} (S : GSt w0 X l m v a b c d wx) {l' : List UInt8} (hr : RdC (X + 2) l' wy) (hg : wx.grownBy wy (some (X + 2))) : GSt w0 X l' m v a b c d wy := by
 obtain ⟨lo, lc, fo, fc, go, gc, co, cc, ho, s1, s2, s3, s4⟩ := S.y
 have hlt := S.lt
 have hk : ∀ b, X + 3 ≤ b → b < wx.heap.size → wy.heap[b]? = wx.heap[b]? := fun b hb hl => hg.block b hl fun e => by have := Option.some.inj e; omega
 exact ⟨hr, below_grownB S.bel hg (by omega) (by omega), lo, lc, fo, fc, go, gc, co, cc, ho.grown hg, s1.onKeep hg.size hk (fun b h _ => h), s2.kept hg.size hk (fun b h _ => h) (fun _ _ h => h), s3.kept hg.size hk (fun b h _ => h) (fun _ _ h => h), s4.onKeep hg.size hk (fun b h _ => h)⟩
theorem GSt.put {w0 : World} {X : Nat} {l : List UInt8} {m : ByteArray} {v : Int} {a : List Tm} {b : List RFunc} {c : List RFun} {d : List RIns} {wx wy : World} (S : GSt w0 X l m v a b c d wx) (hof : OffB X wx wy) (hbl : Below X wx wy) {m' : ByteArray} {v' : Int} {a' : List Tm} {b' : List RFunc} {c' : List RFun} {d' : List RIns}
  {lo : Option Addr} {lc : Nat} {fo : Option Addr} {fc : Nat} {go : Option Addr} {gc : Nat} {co : Option Addr} {cc : Nat} (hx : wy.heap[X]? = some (.cells #[.string m', .int .i64 v', .slice lo a'.length lc, .slice fo b'.length fc, .slice go c'.length gc, .slice co d'.length cc] 27 (0, 0))) (he : wx.heap[X + 1]? = some (.cells #[.int .i64 0] 30 (0, 0)))
  (s1 : SlIn wx (X + 3 ≤ ·) 9 (Way.tm.on wx (X + 3 ≤ ·)) lo a') (s2 : SlIn wx (X + 3 ≤ ·) 4 FuncR fo b') (s3 : SlIn wx (X + 3 ≤ ·) 3 FunR go c') (s4 : SlIn wx (X + 3 ≤ ·) 10 (Way.ins.on wx (X + 3 ≤ ·)) co d') : GSt w0 X l m' v' a' b' c' d' wy := by
 have hk : ∀ b, X + 3 ≤ b → b < wx.heap.size → wy.heap[b]? = wx.heap[b]? := fun b hb hl => hof.2 b (by omega)
 exact ⟨S.rd.off hof (by omega), S.bel.trans hbl, lo, lc, fo, fc, go, gc, co, cc, ⟨hx, (hof.2 _ (by omega)).trans he⟩, s1.onKeep hof.1 hk (fun b h _ => h), s2.kept hof.1 hk (fun b h _ => h) (fun _ _ h => h), s3.kept hof.1 hk (fun b h _ => h) (fun _ _ h => h), s4.onKeep hof.1 hk (fun b h _ => h)⟩
theorem six_far (X : Nat) (w : World) (v0 v1 v2 v3 v4 v5 e : Value) : (∀ b, X + 3 ≤ b → (((((((w.setCell ⟨X, 0, none⟩ v0).setCell ⟨X, 1, none⟩ v1).setCell ⟨X, 2, none⟩ v2).setCell ⟨X, 3, none⟩ v3).setCell ⟨X, 4, none⟩ v4).setCell ⟨X, 5, none⟩ v5).setCell ⟨X + 1, 0, none⟩ e).heap[b]? = w.heap[b]?) ∧ w.heap.size ≤ (((((((w.setCell ⟨X, 0, none⟩ v0).setCell ⟨X, 1, none⟩ v1).setCell ⟨X, 2, none⟩ v2).setCell ⟨X, 3, none⟩ v3).setCell ⟨X, 4, none⟩ v4).setCell ⟨X, 5, none⟩ v5).setCell ⟨X + 1, 0, none⟩ e).heap.size :=
 ⟨fun b hb => ((OffB.set (X + 1) _ 0 e).2 b (by omega)).trans ((OffB.six X w v0 v1 v2 v3 v4 v5).2 b (by omega)), Nat.le_trans (OffB.six X w v0 v1 v2 v3 v4 v5).1 (OffB.set (X + 1) _ 0 e).1⟩
theorem checkE_or (f : Nat) (u : RUnit) : checkE f u = 0 ∨ checkE f u = 6 := by
 unfold checkE
 split
 ·split
  ·exact .inr rfl
  ·exact .inl rfl
 ·exact .inr rfl
theorem up_of {w : World} {P : Nat → Prop} {u : RUnit} {lo fo go co : Option Addr} (ho : UnitOk u) (s1 : SlIn w P 9 (Way.tm.on w P) lo u.lits) (s2 : SlIn w P 4 FuncR fo u.funcs) (s3 : SlIn w P 3 FunR go u.funs) (s4 : SlIn w P 10 (Way.ins.on w P) co u.code) :
  UP w u lo fo go co ∧ SlAt w 9 (TmAt w 2000) lo u.lits := by
 have h1 : SlAt w 9 (TmAt w 2000) lo u.lits := s1.at fun j hj cs hx => TmIn.ok hx (ho.lits _ (List.getElem_mem hj)).2
 have l1 := ho.litsL; have l2 := ho.funcsL; have l3 := ho.funsL; have l4 := ho.codeL; have l5 := ho.mdl
 exact ⟨⟨h1.imp fun _ _ h => ⟨2000, h⟩, s2.at fun _ _ _ h => h, s3.at fun _ _ _ h => h, s4.at fun j hj cs hx => InsIn.ok hx (ho.code _ (List.getElem_mem hj)), by omega, ho.vsn, by omega, by omega, by omega, by omega⟩, h1⟩
set_option maxRecDepth 100000 in
set_option maxHeartbeats 40000000 in
theorem uget_any (s : ByteArray) (w : World) (hs : s.size ≤ 68719476736) (hrows : RowsAt w) (hsp : SpaceAt w) : Calls Tryz.prog 17 #[.string s] w (UGetQ s w) := by
 have hmf : ∀ (fn : Fn) (first cap : Array Value) (w : World), (Instr.makeFunc fn first cap).run Tryz.prog w = .ok (.func fn first cap) w := fun _ _ _ _ => rfl
 generalize hQ : UGetQ s w = Q at *
 have HQ := Lib.hid hQ
 clear hQ
 have HU : Hid (ugetD s.data.toList = (unitD s.data.toList).bind fun x => if x.2 = [] ∧ checkE 2000 x.1 = 0 then some x.1 else none) := Lib.hid rfl
 have HD : Hid (unitD s.data.toList = (textD s.data.toList).bind fun m => (intD m.2).bind fun v => (listD litD v.2).bind fun a => (listD funcD a.2).bind fun b => (listD fnD b.2).bind fun c => (listD insD c.2).bind fun d => some (⟨m.1, v.1, a.1, b.1, c.1, d.1⟩, d.2)) := Lib.hid rfl
 have HRW := Lib.hid hrows
 have HSP := Lib.hid hsp
 clear hrows hsp
 go_enter_defers Tryz.func17, Tryz.ntmps17
 go_upto_region 3 with fail
 simp only [Nat.add_assoc, Nat.reduceAdd]
 have hO : Out2 w.heap.size (((w.alloc (.cells zeroU 27)).alloc (.cells #[.int .i64 0] 30)).alloc (.cells #[.string s] 95)) zeroU (.int .i64 0) := by
  obtain ⟨h0, h1, -⟩ := three_blocks w (.cells zeroU 27) (.cells #[.int .i64 0] 30) (.cells #[.string s] 95)
  exact ⟨h0, h1⟩
 have hR : RdC (w.heap.size + 2) s.data.toList (((w.alloc (.cells zeroU 27)).alloc (.cells #[.int .i64 0] 30)).alloc (.cells #[.string s] 95)) := ⟨s, (three_blocks w _ _ _).2.2, rfl, hs⟩
 have hB : Below w.heap.size w (((w.alloc (.cells zeroU 27)).alloc (.cells #[.int .i64 0] 30)).alloc (.cells #[.string s] 95)) := (((Below.refl _ _).alloc (Nat.le_refl _) _).alloc (by simp) _).alloc (by simp; omega) _
 unfold zeroU at hO hR hB
 generalize World.alloc _ _ = w3 at *
 have HRW3 : Hid (w.heap.size ≤ w3.heap.size) := Lib.hid hB.size
 generalize hXX : w.heap.size = X at *
 have HX := Lib.hid hXX
 clear hXX
 have hX := hR.lt
 have H1 := ktext_any (X + 2) s.data.toList w3 hR
 rcases h1 : textD s.data.toList with _ | ⟨m, l1⟩
 ·rw [h1] at H1 HD
  have HN : Hid (ugetD s.data.toList = none) := Lib.hid (by rw [HU.out, HD.out]; rfl)
  go_wp2_with (go_at_call 55; refine H1.mono ?_; rintro e v1 ⟨rfl, hg1⟩)
  refine leaves_cons (f := 54) (args := #[.pointer (some ⟨X, 0, none⟩), .pointer (some ⟨X + 1, 0, none⟩)]) (by simp) (by simp [go_sem]) ?_
  refine (get_catch X _ _ _ _ _ _ _ [] _ (hO.grown hg1)).mono ?_
  rintro e u' w'' ⟨rfl, rfl, hO9, hB9⟩
  simp only [settle, List.dropWhile_nil]
  refine ⟨_, results_out2 rfl _ _ _ X _ _ _ rfl rfl hO9 Tryz.underlying27 (by kernel_rfl) (load_errno hO9.e), ?_⟩
  rw [← HQ.out]
  refine ⟨by rw [HN.out], ?_⟩
  rw [HX.out]
  exact Below.trans (below_grownB hB hg1 (by omega) (by omega)) hB9
 rw [h1] at H1 HD
 rw [Option.bind_some] at HD
 go_wp2_with (go_at_call 55; refine H1.mono ?_; rintro e v1 ⟨rfl, hr1, hg1⟩; have hO1 := hO.grown hg1; have hB1 := below_grownB hB hg1 (by omega) (by omega); clear hO hB hR H1 hX)
 have hX := hr1.lt
 have H2 := knum_any (X + 2) l1 v1 hr1
 rcases h2 : vD l1 with _ | ⟨n, l2⟩
 ·rw [h2] at H2
  rw [show intD l1 = (vD l1).bind fun x => some ((x.1 : Int), x.2) from rfl, h2] at HD
  have HN : Hid (ugetD s.data.toList = none) := Lib.hid (by rw [HU.out, HD.out]; rfl)
  go_wp2_with (go_at_call 56; refine H2.mono ?_; rintro e v2 ⟨rfl, hg2⟩)
  refine leaves_cons (f := 54) (args := #[.pointer (some ⟨X, 0, none⟩), .pointer (some ⟨X + 1, 0, none⟩)]) (by simp) (by simp [go_sem]) ?_
  refine (get_catch X _ _ _ _ _ _ _ [] _ (hO1.grown hg2)).mono ?_
  rintro e u' w'' ⟨rfl, rfl, hO9, hB9⟩
  simp only [settle, List.dropWhile_nil]
  refine ⟨_, results_out2 rfl _ _ _ X _ _ _ rfl rfl hO9 Tryz.underlying27 (by kernel_rfl) (load_errno hO9.e), ?_⟩
  rw [← HQ.out]
  refine ⟨by rw [HN.out], ?_⟩
  rw [HX.out]
  exact Below.trans (below_grownB hB1 hg2 (by omega) (by omega)) hB9
 rw [h2] at H2
 rw [show intD l1 = (vD l1).bind fun x => some ((x.1 : Int), x.2) from rfl, h2] at HD
 rw [Option.bind_some, Option.bind_some] at HD
 have hn := (vD_len h2).1
 have hw64 : IntKind.i64.wrap (n : Int) = (n : Int) := by rw [IntKind.wrap_i64]; omega
 go_upto_region 4 with (go_at_call 56; refine H2.mono ?_; rintro e v2 ⟨rfl, hr2, hg2⟩; have hO2 := hO1.grown hg2; have hB2 := below_grownB hB1 hg2 (by omega) (by omega); clear hO1 hB1 hr1 H2 hg1 hX; obtain ⟨c0, c1, c2, c3, c4, c5, d0, d1, d2, d3, d4, d5⟩ := unit_cells hO2.x)
 clear c0 c1 c2 c3 c4 c5 d0 d1 d2 d3 d4 d5
 have S0 : GSt w X l2 ⟨#[]⟩ 0 [] [] [] [] v2 := ⟨hr2, hB2, none, 0, none, 0, none, 0, none, 0, hO2, .inl rfl, .inl rfl, .inl rfl, .inl rfl⟩
 have S := S0.put (m' := m) (v' := (n : Int)) (a' := []) (b' := []) (c' := []) (d' := []) (lo := none) (lc := 0) (fo := none) (fc := 0) (go := none) (gc := 0) (co := none) (cc := 0) (OffB.six X v2 (.string m) (.int .i64 (n : Int)) (.slice none 0 0) (.slice none 0 0) (.slice none 0 0) (.slice none 0 0)) (below6 (Below.refl _ _) (.string m) (.int .i64 (n : Int)) (.slice none 0 0) (.slice none 0 0) (.slice none 0 0) (.slice none 0 0)) (set6 (.string m) (.int .i64 (n : Int)) (.slice none 0 0) (.slice none 0 0) (.slice none 0 0) (.slice none 0 0) hO2.x) hO2.e (.inl rfl) (.inl rfl) (.inl rfl) (.inl rfl)
 clear S0 hr2 hB2 hO2 hg2 hw64
 generalize World.setCell _ _ _ = w4 at *
 generalize hv : (n : Int) = v at *
 have HL := Lib.hid S
 clear S
 have S := HL.out
 clear HL
 have hX := S.lt
 have H := klistLit_any (X + 2) l2 _ (fun l wx h => klit_any (X + 2) l wx h) litD_lt S.rd
 rcases h3 : listD litD l2 with _ | ⟨a, l3⟩
 ·rw [h3] at H HD
  have HN : Hid (ugetD s.data.toList = none) := Lib.hid (by rw [HU.out, HD.out]; rfl)
  obtain ⟨lo, lc, fo, fc, go, gc, co, cc, hO, -⟩ := S.y
  go_wp2_with (go_at_call 57; refine H.mono ?_; rintro e v5 ⟨rfl, hg5⟩)
  refine leaves_cons (f := 54) (args := #[.pointer (some ⟨X, 0, none⟩), .pointer (some ⟨X + 1, 0, none⟩)]) (by simp) (by simp [go_sem]) ?_
  refine (get_catch X _ _ _ _ _ _ _ [] _ (hO.grown hg5)).mono ?_
  rintro e u' w'' ⟨rfl, rfl, hO9, hB9⟩
  simp only [settle, List.dropWhile_nil]
  refine ⟨_, results_out2 rfl _ _ _ X _ _ _ rfl rfl hO9 Tryz.underlying27 (by kernel_rfl) (load_errno hO9.e), ?_⟩
  rw [← HQ.out]
  refine ⟨by rw [HN.out], ?_⟩
  rw [HX.out]
  exact Below.trans (below_grownB S.bel hg5 (by omega) (by omega)) hB9
 rw [h3] at H HD
 rw [Option.bind_some] at HD
 have hX3 : X + 3 ≤ w4.heap.size := hX
 go_upto_region 5 with (go_at_call 57; refine H.mono ?_; rintro e v5 ⟨⟨so2, c2, rfl, hsl⟩, hr5, hg5⟩; have S2 := S.call hr5 hg5; clear S; obtain ⟨lo, lc, fo, fc, go, gc, co, cc, hO, s1, s2, s3, s4⟩ := S2.y; obtain ⟨q0, q1, q2, q3, q4, q5, z0, z1, z2, z3, z4, z5⟩ := unit_cells hO.x)
 clear q0 q1 q2 q3 q4 q5 z0 z1 z2 z3 z4 z5
 have S3 := S2.put (OffB.set X _ 2 _) ((Below.refl _ _).setCell (p := ⟨X, 2, none⟩) (Nat.le_refl _) _) (heap_setCell_same _ _ 2 _ _ (.slice so2 a.length c2) hO.x) hO.e (hsl.onKeep (Nat.le_refl _) (fun _ _ _ => rfl) (fun b hb _ => Nat.le_trans hX3 hb)) s2 s3 s4
 have HL : Hid (GSt w X l3 m v a [] [] [] _) := Lib.hid S3
 clear S2 S3 hO s1 s2 s3 s4 hr5 hg5 hsl H hX hX3 h3
 generalize World.setCell _ _ _ = w5 at *
 have S := HL.out
 clear HL
 have hX := S.lt
 have H := klistFunc_any (X + 2) l3 _ (fun l wx h => kfunc_any (X + 2) l wx h) funcD_lt S.rd
 rcases h3 : listD funcD l3 with _ | ⟨b, l4⟩
 ·rw [h3] at H HD
  have HN : Hid (ugetD s.data.toList = none) := Lib.hid (by rw [HU.out, HD.out]; rfl)
  obtain ⟨lo, lc, fo, fc, go, gc, co, cc, hO, -⟩ := S.y
  go_wp2_with (go_at_call 59; refine H.mono ?_; rintro e v5 ⟨rfl, hg5⟩)
  refine leaves_cons (f := 54) (args := #[.pointer (some ⟨X, 0, none⟩), .pointer (some ⟨X + 1, 0, none⟩)]) (by simp) (by simp [go_sem]) ?_
  refine (get_catch X _ _ _ _ _ _ _ [] _ (hO.grown hg5)).mono ?_
  rintro e u' w'' ⟨rfl, rfl, hO9, hB9⟩
  simp only [settle, List.dropWhile_nil]
  refine ⟨_, results_out2 rfl _ _ _ X _ _ _ rfl rfl hO9 Tryz.underlying27 (by kernel_rfl) (load_errno hO9.e), ?_⟩
  rw [← HQ.out]
  refine ⟨by rw [HN.out], ?_⟩
  rw [HX.out]
  exact Below.trans (below_grownB S.bel hg5 (by omega) (by omega)) hB9
 rw [h3] at H HD
 rw [Option.bind_some] at HD
 have hX3 : X + 3 ≤ w5.heap.size := hX
 go_upto_region 6 with (go_at_call 59; refine H.mono ?_; rintro e v5 ⟨⟨so2, c2, rfl, hsl⟩, hr5, hg5⟩; have S2 := S.call hr5 hg5; clear S; obtain ⟨lo, lc, fo, fc, go, gc, co, cc, hO, s1, s2, s3, s4⟩ := S2.y; obtain ⟨q0, q1, q2, q3, q4, q5, z0, z1, z2, z3, z4, z5⟩ := unit_cells hO.x)
 clear q0 q1 q2 q3 q4 q5 z0 z1 z2 z3 z4 z5
 have S3 := S2.put (OffB.set X _ 3 _) ((Below.refl _ _).setCell (p := ⟨X, 3, none⟩) (Nat.le_refl _) _) (heap_setCell_same _ _ 3 _ _ (.slice so2 b.length c2) hO.x) hO.e s1 (hsl.kept (Nat.le_refl _) (fun _ _ _ => rfl) (fun b hb _ => Nat.le_trans hX3 hb) (fun _ _ h => h)) s3 s4
 have HL : Hid (GSt w X l4 m v a b [] [] _) := Lib.hid S3
 clear S2 S3 hO s1 s2 s3 s4 hr5 hg5 hsl H hX hX3 h3
 generalize World.setCell _ _ _ = w6 at *
 have S := HL.out
 clear HL
 have hX := S.lt
 have H := klistFun_any (X + 2) l4 _ (fun l wx h => kfun_any (X + 2) l wx h) fnD_lt S.rd
 rcases h3 : listD fnD l4 with _ | ⟨c, l5⟩
 ·rw [h3] at H HD
  have HN : Hid (ugetD s.data.toList = none) := Lib.hid (by rw [HU.out, HD.out]; rfl)
  obtain ⟨lo, lc, fo, fc, go, gc, co, cc, hO, -⟩ := S.y
  go_wp2_with (go_at_call 61; refine H.mono ?_; rintro e v5 ⟨rfl, hg5⟩)
  refine leaves_cons (f := 54) (args := #[.pointer (some ⟨X, 0, none⟩), .pointer (some ⟨X + 1, 0, none⟩)]) (by simp) (by simp [go_sem]) ?_
  refine (get_catch X _ _ _ _ _ _ _ [] _ (hO.grown hg5)).mono ?_
  rintro e u' w'' ⟨rfl, rfl, hO9, hB9⟩
  simp only [settle, List.dropWhile_nil]
  refine ⟨_, results_out2 rfl _ _ _ X _ _ _ rfl rfl hO9 Tryz.underlying27 (by kernel_rfl) (load_errno hO9.e), ?_⟩
  rw [← HQ.out]
  refine ⟨by rw [HN.out], ?_⟩
  rw [HX.out]
  exact Below.trans (below_grownB S.bel hg5 (by omega) (by omega)) hB9
 rw [h3] at H HD
 rw [Option.bind_some] at HD
 have hX3 : X + 3 ≤ w6.heap.size := hX
 go_upto_region 7 with (go_at_call 61; refine H.mono ?_; rintro e v5 ⟨⟨so2, c2, rfl, hsl⟩, hr5, hg5⟩; have S2 := S.call hr5 hg5; clear S; obtain ⟨lo, lc, fo, fc, go, gc, co, cc, hO, s1, s2, s3, s4⟩ := S2.y; obtain ⟨q0, q1, q2, q3, q4, q5, z0, z1, z2, z3, z4, z5⟩ := unit_cells hO.x)
 clear q0 q1 q2 q3 q4 q5 z0 z1 z2 z3 z4 z5
 have S3 := S2.put (OffB.set X _ 4 _) ((Below.refl _ _).setCell (p := ⟨X, 4, none⟩) (Nat.le_refl _) _) (heap_setCell_same _ _ 4 _ _ (.slice so2 c.length c2) hO.x) hO.e s1 s2 (hsl.kept (Nat.le_refl _) (fun _ _ _ => rfl) (fun b hb _ => Nat.le_trans hX3 hb) (fun _ _ h => h)) s4
 have HL : Hid (GSt w X l5 m v a b c [] _) := Lib.hid S3
 clear S2 S3 hO s1 s2 s3 s4 hr5 hg5 hsl H hX hX3 h3
 generalize World.setCell _ _ _ = w7 at *
 have S := HL.out
 clear HL
 have hX := S.lt
 have H := klistIns_any (X + 2) l5 _ (HRW.out.below (by rw [HX.out]; exact S.bel)) (fun l wx hw h => kins_any (X + 2) l wx hw h) insD_lt S.rd
 rcases h3 : listD insD l5 with _ | ⟨d, l6⟩
 ·rw [h3] at H HD
  have HN : Hid (ugetD s.data.toList = none) := Lib.hid (by rw [HU.out, HD.out]; rfl)
  obtain ⟨lo, lc, fo, fc, go, gc, co, cc, hO, -⟩ := S.y
  go_wp2_with (go_at_call 63; refine H.mono ?_; rintro e v5 ⟨rfl, hg5⟩)
  refine leaves_cons (f := 54) (args := #[.pointer (some ⟨X, 0, none⟩), .pointer (some ⟨X + 1, 0, none⟩)]) (by simp) (by simp [go_sem]) ?_
  refine (get_catch X _ _ _ _ _ _ _ [] _ (hO.grown hg5)).mono ?_
  rintro e u' w'' ⟨rfl, rfl, hO9, hB9⟩
  simp only [settle, List.dropWhile_nil]
  refine ⟨_, results_out2 rfl _ _ _ X _ _ _ rfl rfl hO9 Tryz.underlying27 (by kernel_rfl) (load_errno hO9.e), ?_⟩
  rw [← HQ.out]
  refine ⟨by rw [HN.out], ?_⟩
  rw [HX.out]
  exact Below.trans (below_grownB S.bel hg5 (by omega) (by omega)) hB9
 rw [h3] at H HD
 rw [Option.bind_some] at HD
 have hX3 : X + 3 ≤ w7.heap.size := hX
 go_upto_region 8 with (go_at_call 63; refine H.mono ?_; rintro e v5 ⟨⟨so2, c2, rfl, hsl⟩, hr5, hg5⟩; have S2 := S.call hr5 hg5; clear S; obtain ⟨lo, lc, fo, fc, go, gc, co, cc, hO, s1, s2, s3, s4⟩ := S2.y; obtain ⟨q0, q1, q2, q3, q4, q5, z0, z1, z2, z3, z4, z5⟩ := unit_cells hO.x)
 clear q0 q1 q2 q3 q4 q5 z0 z1 z2 z3 z4 z5
 have S3 := S2.put (OffB.set X _ 5 _) ((Below.refl _ _).setCell (p := ⟨X, 5, none⟩) (Nat.le_refl _) _) (heap_setCell_same _ _ 5 _ _ (.slice so2 d.length c2) hO.x) hO.e s1 s2 s3 (hsl.onKeep (Nat.le_refl _) (fun _ _ _ => rfl) (fun b hb _ => Nat.le_trans hX3 hb))
 have HL : Hid (GSt w X l6 m v a b c d _) := Lib.hid S3
 clear S2 S3 hO s1 s2 s3 s4 hr5 hg5 hsl H hX hX3 h3
 generalize World.setCell _ _ _ = w8 at *
 have S := HL.out
 clear HL
 obtain ⟨lo, lc, fo, fc, go, gc, co, cc, hO, s1, s2, s3, s4⟩ := S.y
 have hok := (unitD_enc HD.out).2
 have hup := up_of hok s1 s2 s3 s4
 have hcap : ∀ t ∈ a, (capF 2000 t : Int) ≤ 1152921504606846976 := fun t ht => by
  have h1 := hok.lits t ht
  have h2 := cap_nodes 2000 t h1.2
  have h3 := h1.1
  unfold validF at h3
  rw [Bool.and_eq_true, decide_eq_true_eq] at h3
  have h4 := nodes_whole 2000 t h3.1
  omega
 have hck := check_any 1999 ⟨m, v, a, b, c, d⟩ lo fo go co lc fc gc cc w8 (HRW.out.below (by rw [HX.out]; exact S.bel)) (HSP.out.below (by rw [HX.out]; exact S.bel)) hup.1 hup.2 hcap (fun x hx => by have := (hok.code x hx).name; omega)
 have HSS := Lib.hid (And.intro s1 (And.intro s2 (And.intro s3 (And.intro s4 hok))))
 have hee := checkE_or 2000 ⟨m, v, a, b, c, d⟩
 have HEE : Hid (ugetD s.data.toList = if l6 = [] ∧ checkE 2000 ⟨m, v, a, b, c, d⟩ = 0 then some ⟨m, v, a, b, c, d⟩ else none) := Lib.hid (by rw [HU.out, HD.out]; rfl)
 clear hok hup hcap s1 s2 s3 s4
 generalize checkI (1999 + 1) ⟨m, v, a, b, c, d⟩ = ci at *
 rw [show checkE (1999 + 1) ⟨m, v, a, b, c, d⟩ = checkE 2000 ⟨m, v, a, b, c, d⟩ from rfl] at hck
 generalize checkE 2000 ⟨m, v, a, b, c, d⟩ = ce at *
 obtain ⟨q0, q1, q2, q3, q4, q5, z0, z1, z2, z3, z4, z5⟩ := unit_cells hO.x
 go_upto_region 9 with (go_at_call 13; refine hck.mono ?_; rintro e w9 ⟨rfl, hb9⟩)
 obtain ⟨s6, hr6, hl6, hs6⟩ := S.rd.below hb9
 have hO9 := hO.below hb9
 have hB9 : Below X w w9 := S.bel.trans (hb9.mono (by have := S.lt; omega))
 have hle9 := hb9.size
 have HBL := Lib.hid hb9
 have hX8 := S.lt
 clear q0 q1 q2 q3 q4 q5 z0 z1 z2 z3 z4 z5 hO S hb9 hck
 obtain ⟨r0, g0⟩ := RdC.cells hr6
 obtain ⟨q0, q1, q2, q3, q4, q5, z0, z1, z2, z3, z4, z5⟩ := unit_cells hO9.x
 have k1 : w9.cell? ⟨X + 1, 0, none⟩ = some (.int .i64 0) := cell_of_row w9 _ 0 _ _ _ hO9.e
 have f1 : w9.frozen? ⟨X + 1, 0, none⟩ = false := frozen_of_row w9 _ 0 _ _ hO9.e
 clear hr6
 by_cases c6 : l6 = []
 case neg =>
  have HN : Hid (ugetD s.data.toList = none) := Lib.hid (by rw [HEE.out]; exact if_neg fun h => c6 h.1)
  have hne : ¬ s6.toList = [] := by rw [ByteArray.toList_eq, hl6]; exact c6
  have hne3 : s6.toList.isEmpty = false := by cases h : s6.toList with | nil => exact absurd h hne | cons => rfl
  clear HEE c6 hl6 hee
  have hO10 := hO9.six (.string ⟨#[]⟩) (.int .i64 0) (.slice none 0 0) (.slice none 0 0) (.slice none 0 0) (.slice none 0 0) (.int .i64 6)
  have hB10 : Below X w _ := (below6 hB9 (.string ⟨#[]⟩) (.int .i64 0) (.slice none 0 0) (.slice none 0 0) (.slice none 0 0) (.slice none 0 0)).setCell (p := ⟨X + 1, 0, none⟩) (show X ≤ X + 1 by omega) (.int .i64 6)
  go_wp2_with fail
  clear q0 q1 q2 q3 q4 q5 z0 z1 z2 z3 z4 z5 k1 f1 hO9 hB9
  generalize World.setCell _ ⟨X + 1, 0, none⟩ _ = w10 at *
  refine leaves_cons (f := 54) (args := #[.pointer (some ⟨X, 0, none⟩), .pointer (some ⟨X + 1, 0, none⟩)]) (by simp) (by simp [go_sem]) ?_
  refine (get_idle _ _ _).mono ?_
  rintro e u' w'' ⟨rfl, rfl, rfl⟩
  simp only [settle]
  refine ⟨_, results_out2 rfl _ _ _ X _ _ _ rfl rfl hO10 Tryz.underlying27 (by kernel_rfl) (load_errno hO10.e), ?_⟩
  rw [← HQ.out]
  exact ⟨by rw [HN.out]; exact rfl, by rw [HX.out]; exact hB10⟩
 subst c6
 have h0 : s6 = ⟨#[]⟩ := ByteArray.ext (Array.ext' hl6)
 subst h0
 by_cases ce0 : ce = 0
 case neg =>
  have HN : Hid (ugetD s.data.toList = none) := Lib.hid (by rw [HEE.out]; exact if_neg fun h => ce0 h.2)
  have ce6 := hee.resolve_left ce0
  subst ce6
  clear HEE hl6 hee ce0
  have hO10 := hO9.six (.string ⟨#[]⟩) (.int .i64 0) (.slice none 0 0) (.slice none 0 0) (.slice none 0 0) (.slice none 0 0) (.int .i64 6)
  have hB10 : Below X w _ := (below6 hB9 (.string ⟨#[]⟩) (.int .i64 0) (.slice none 0 0) (.slice none 0 0) (.slice none 0 0) (.slice none 0 0)).setCell (p := ⟨X + 1, 0, none⟩) (show X ≤ X + 1 by omega) (.int .i64 6)
  go_wp2_with fail
  clear q0 q1 q2 q3 q4 q5 z0 z1 z2 z3 z4 z5 k1 f1 hO9 hB9
  generalize World.setCell _ ⟨X + 1, 0, none⟩ _ = w10 at *
  refine leaves_cons (f := 54) (args := #[.pointer (some ⟨X, 0, none⟩), .pointer (some ⟨X + 1, 0, none⟩)]) (by simp) (by simp [go_sem]) ?_
  refine (get_idle _ _ _).mono ?_
  rintro e u' w'' ⟨rfl, rfl, rfl⟩
  simp only [settle]
  refine ⟨_, results_out2 rfl _ _ _ X _ _ _ rfl rfl hO10 Tryz.underlying27 (by kernel_rfl) (load_errno hO10.e), ?_⟩
  rw [← HQ.out]
  exact ⟨by rw [HN.out]; exact rfl, by rw [HX.out]; exact hB10⟩
 subst ce0
 have HY : Hid (ugetD s.data.toList = some ⟨m, v, a, b, c, d⟩) := Lib.hid (by rw [HEE.out]; exact if_pos ⟨rfl, rfl⟩)
 clear HEE hl6 hee
 have hO10 := hO9.six (.string m) (.int .i64 v) (.slice lo a.length lc) (.slice fo b.length fc) (.slice go c.length gc) (.slice co d.length cc) (.int .i64 0)
 have hB10 : Below X w _ := (below6 hB9 (.string m) (.int .i64 v) (.slice lo a.length lc) (.slice fo b.length fc) (.slice go c.length gc) (.slice co d.length cc)).setCell (p := ⟨X + 1, 0, none⟩) (show X ≤ X + 1 by omega) (.int .i64 0)
 have HF := Lib.hid (six_far X w9 (.string m) (.int .i64 v) (.slice lo a.length lc) (.slice fo b.length fc) (.slice go c.length gc) (.slice co d.length cc) (.int .i64 0))
 go_wp2_with fail
 clear q0 q1 q2 q3 q4 q5 z0 z1 z2 z3 z4 z5 k1 f1 hO9 hB9
 generalize World.setCell _ ⟨X + 1, 0, none⟩ _ = w10 at *
 obtain ⟨s1, s2, s3, s4, hok⟩ := HSS.out
 have hk : ∀ b, X + 3 ≤ b → b < w8.heap.size → w10.heap[b]? = w8.heap[b]? := fun b hb hl => (HF.out.1 b hb).trans (HBL.out.block b hl)
 have hz : w8.heap.size ≤ w10.heap.size := Nat.le_trans hle9 HF.out.2
 have hup := up_of (u := ⟨m, v, a, b, c, d⟩) hok (s1.onKeep hz hk (fun b h _ => h)) (s2.kept hz hk (fun b h _ => h) (fun _ _ h => h)) (s3.kept hz hk (fun b h _ => h) (fun _ _ h => h)) (s4.onKeep hz hk (fun b h _ => h))
 refine leaves_cons (f := 54) (args := #[.pointer (some ⟨X, 0, none⟩), .pointer (some ⟨X + 1, 0, none⟩)]) (by simp) (by simp [go_sem]) ?_
 refine (get_idle _ _ _).mono ?_
 rintro e u' w'' ⟨rfl, rfl, rfl⟩
 simp only [settle]
 refine ⟨_, results_out2 rfl _ _ _ X _ _ _ rfl rfl hO10 Tryz.underlying27 (by kernel_rfl) (load_errno hO10.e), ?_⟩
 rw [← HQ.out]
 refine ⟨?_, by rw [HX.out]; exact hB10⟩
 rw [HY.out]
 exact ⟨lo, lc, fo, fc, go, gc, co, cc, rfl, hup.1, hup.2⟩
end Go.Proofs.YtghgbikmlbildaaGreatDoor
namespace Go.Proofs.YtghgbikmlbildaaGreatDoor
open Go.RowKit
set_option linter.unusedVariables false
set_option linter.unusedSimpArgs false

theorem cap_of {u : RUnit} (h : UnitOk u) : ∀ t ∈ u.lits, (capF 2000 t : Int) ≤ 1152921504606846976 := fun t ht => by
 have h1 := h.lits t ht
 have h2 := cap_nodes 2000 t h1.2
 have h3 := h1.1
 unfold validF at h3
 rw [Bool.and_eq_true, decide_eq_true_eq] at h3
 have h4 := nodes_whole 2000 t h3.1
 omega
set_option maxRecDepth 100000 in
set_option maxHeartbeats 40000000 in
theorem once_walk (b : ByteArray) (w : World) (hrows : RowsAt w) (hsp : SpaceAt w) :
  Calls Tryz.prog 7 #[.string b] w fun e w' => e = .returned (.bool true) ∧ Below w.heap.size w w' := by
 by_cases big : 20000 < b.size
 ·have haw := awake_any w hrows hsp
  have HA := Lib.hid haw
  clear haw hrows hsp
  go_enter Tryz.func7, Tryz.ntmps7
  go_wp2_with (go_at_call 12; refine HA.out.mono ?_; rintro e w1 ⟨rfl, hb1⟩)
  go_ret
  exact ⟨rfl, hb1⟩
 have hG := uget_any b w (by omega) hrows hsp
 have HR := Lib.hid hrows; have HS := Lib.hid hsp
 clear hrows hsp
 unfold UGetQ at hG
 rcases hu : ugetD b.data.toList with _ | u
 ·rw [hu] at hG
  unfold zeroU at hG
  go_enter Tryz.func7, Tryz.ntmps7
  go_upto_region 5 with (go_at_call 17; refine hG.mono ?_; rintro e w1 ⟨rfl, hb1⟩)
  have hb2 := hb1.alloc hb1.size (.cells #[.string ⟨#[]⟩, .int .i64 0, .slice none 0 0, .slice none 0 0, .slice none 0 0, .slice none 0 0] 27)
  have HB2 := Lib.hid hb2
  clear hb1 hb2
  generalize w1.alloc _ = w2 at *
  go_wp2_with (go_at_call 12; refine (awake_any w2 (HR.out.below HB2.out) (HS.out.below HB2.out)).mono ?_; rintro e w3 ⟨rfl, hb3⟩)
  go_ret
  exact ⟨rfl, below_next HB2.out hb3⟩
 rw [hu] at hG
 obtain ⟨he, hc, hok⟩ := ugetD_enc hu
 obtain ⟨-, htb, -⟩ := check_ok hc
 have hcap := cap_of hok
 have hstr : (⟨(unitW (encW 2000) u).toArray⟩ : ByteArray) = b := by rw [← he]
 have HPUT : Hid (∀ (lo fo go co : Option Addr) (lc fc gc cc : Nat) (wx : World), Below w.heap.size w wx → UP wx u lo fo go co → SlAt wx 9 (TmAt wx 2000) lo u.lits →
   Calls Tryz.prog 15 #[.agg #[.string u.mdl, .int .i64 u.vsn, .slice lo u.lits.length lc, .slice fo u.funcs.length fc, .slice go u.funs.length gc, .slice co u.code.length cc]] wx fun e w' => e = .returned (.tuple #[.string b, .int .i64 0]) ∧ Below wx.heap.size wx w') := Lib.hid (fun lo fo go co lc fc gc cc wx hb hup hl => by
  have h := put_yes (encW 2000) 1999 u lo fo go co lc fc gc cc wx (HR.out.below hb) (HS.out.below hb) hup hl hcap (fun x hx => by have := (hok.code x hx).name; omega) (wire_ok (lits_valid htb) hcap) hc
  rw [hstr] at h; exact h)
 clear he hc hok htb hcap hstr
 go_enter Tryz.func7, Tryz.ntmps7
 go_upto_region 6 with (go_at_call 17; refine hG.mono ?_; rintro e w1 ⟨⟨lo, lc, fo, fc, go, gc, co, cc, rfl, hup, hsl⟩, hb1⟩)
 have hba := (Below.refl w1.heap.size w1).alloc (Nat.le_refl _) (.cells #[.string u.mdl, .int .i64 u.vsn, .slice lo u.lits.length lc, .slice fo u.funcs.length fc, .slice go u.funs.length gc, .slice co u.code.length cc] 27)
 have hbx := ubox_new w1 u lo fo go co lc fc gc cc
 have HB2 := Lib.hid (hb1.trans (hba.mono hb1.size))
 have HUP := Lib.hid (hup.below hba)
 have HSL := Lib.hid (hsl.tms hba)
 clear hb1 hba hup hsl
 generalize w1.alloc _ = w2 at *
 have d0 := hbx.c0; have d1 := hbx.c1; have d2 := hbx.c2; have d3 := hbx.c3; have d4 := hbx.c4; have d5 := hbx.c5
 have hbl := hbx.lt
 clear hbx
 have hci : (b.toList == b.toList) = true := beq_self_eq_true _
 go_wp2_with fail
 refine (HPUT.out lo fo go co lc fc gc cc w2 HB2.out HUP.out HSL.out).mono ?_
 rintro e w3 ⟨rfl, hb3⟩
 have HB3 := Lib.hid (below_next HB2.out hb3)
 clear hb3 d0 d1 d2 d3 d4 d5
 go_wp2_with fail
 refine (awake_any w3 (HR.out.below HB3.out) (HS.out.below HB3.out)).mono ?_
 rintro e w4 ⟨rfl, hb4⟩
 go_wp2_with fail
 go_ret
 exact ⟨rfl, below_next HB3.out hb4⟩
end Go.Proofs.YtghgbikmlbildaaGreatDoor
namespace Go.Proofs.YtghgbikmlbildaaGreatDoor
open Go.RowKit
set_option linter.unusedVariables false

theorem rows_datum : (Rows.laid_stagehand_code_rows : DataW Unit) = .agg (rowT.map fun r => .agg ([r.1, r.2.1, r.2.2].map fun z => .lit (.int .i64 z))) := rfl
theorem rowsName : Tryz.prog.globalNamed "stagehand/code.rows" = some 0 := by kernel_rfl
theorem rowsType : (Tryz.prog.globals[0]?).map (·.type) = some 126 := by kernel_rfl
theorem rowCells : Tryz.prog.cellsOf 57 = 3 := by kernel_rfl
theorem rowInt : Tryz.prog.cellsOf 3 = 1 := by kernel_rfl
theorem rows_of_reads {W : World} (h : Lib.VarReads Tryz.prog W "stagehand/code.rows" Rows.laid_stagehand_code_rows) : RowsAt W := by
 obtain ⟨g, t, cs, fuel, p, hg, ht, hv, hd⟩ := h
 obtain rfl := Option.some.inj (rowsName.symm.trans hg)
 obtain rfl := Option.some.inj (rowsType.symm.trans ht)
 rw [rows_datum] at hd
 have hlt : 0 < W.heap.size := by
  unfold World.var? at hv
  rw [hg] at hv
  simp only [Option.bind_some] at hv
  split at hv
  ·rename_i h; exact (Array.getElem?_eq_some_iff.1 h).1
  ·cases hv
 refine ⟨hlt, fun k hk => ?_⟩
 obtain ⟨f', d, q, h1, h2⟩ := Lib.array_elem Tryz.underlying126 hd k hk
 rw [List.getElem?_map, List.getElem?_eq_getElem (by exact hk)] at h1
 obtain rfl := Option.some.inj h1
 have h3 := Lib.ints_of_struct Tryz.underlying57 (fun i f hf => by
  have hi := (Array.getElem?_eq_some_iff.1 hf).1
  have hi : i < 3 := hi
  rcases (show i = 0 ∨ i = 1 ∨ i = 2 by omega) with rfl | rfl | rfl
  all_goals
   obtain rfl := Option.some.inj hf
   exact ⟨Tryz.underlying3, rfl, rowInt⟩) rowCells h2
 rw [rowCells] at h3
 have hc : ∀ i, i < 3 → cs[k * 3 + i]? = ([(rowT[k]'hk).1, (rowT[k]'hk).2.1, (rowT[k]'hk).2.2].map fun z => Value.int .i64 z)[i]? := fun i hi => by
  have h4 : ((cs.toList.drop (k * 3)).take 3)[i]? = ([(rowT[k]'hk).1, (rowT[k]'hk).2.1, (rowT[k]'hk).2.2].map fun z => Value.int .i64 z)[i]? := congrArg (fun l => l[i]?) h3
  rw [List.getElem?_take_of_lt hi, List.getElem?_drop, Array.getElem?_toList] at h4
  exact h4
 have hcell := World.var?_cell hg hv
 exact ⟨(hcell (k * 3)).trans (hc 0 (by decide)), (hcell (k * 3 + 1)).trans (hc 1 (by decide)), (hcell (k * 3 + 2)).trans (hc 2 (by decide))⟩
theorem spaceName : Tryz.prog.globalNamed "strings.asciiSpace" = some 1 := by kernel_rfl
theorem spaceType : (Tryz.prog.globals[1]?).map (·.type) = some 233 := by kernel_rfl
theorem spaceCells : Tryz.prog.cellsOf 5 = 1 := by kernel_rfl
theorem spacesCells : Tryz.prog.cellsOf 233 = 256 := by kernel_rfl
theorem space_datum : (Rows.laid_strings_asciiSpace : DataW Unit) = Lib.tabData .u8 Lib.asciiSpaceTab := by kernel_rfl
theorem rows_at {W : World} {l : List (String × DataW Unit)} (h : laidMet Tryz.prog l W) (hm : ("stagehand/code.rows", Rows.laid_stagehand_code_rows) ∈ l) : RowsAt W := rows_of_reads (Lib.laidMet.reads h hm)
theorem space_at {W : World} {a : String × DataW Unit} {rest : List (String × DataW Unit)} (h : laidMet Tryz.prog (a :: ("strings.asciiSpace", Rows.laid_strings_asciiSpace) :: rest) W) : SpaceAt W := by
 rw [space_datum] at h
 exact Lib.tabIs_of_head spaceName spaceType Tryz.underlying233 Tryz.underlying5 spaceCells spacesCells h.tail

/-- A world for the witness: the listed tables hold what their initialisers lay. -/
noncomputable def laidWorld (os : Os) : World :=
 let N := (World.settled Tryz.prog os).heap.size
 let w0 := World.holding Tryz.prog os ⟨#[.cells (Lib.whiteT.map fun (z : Nat) => Value.int .u16 (z : Int)).toArray 274, .cells #[.slice (some ⟨N, 0, none⟩) 7 7, .slice none 0 0, .int .i64 2] 271], #[], []⟩
 let put (h : Array Obj) (g : Nat) (cs : Array Value) : Array Obj := h.modify g fun
  | .cells _ t frozen => .cells cs t frozen
  | o => o
 let h1 := put w0.heap 1 (Lib.asciiSpaceTab.map fun z => Value.int .u8 z).toArray
 let h2 := put h1 3 #[.pointer (some ⟨N + 1, 0, none⟩)]
 let h3 := put h2 0 (rowT.flatMap fun r => [Value.int .i64 r.1, Value.int .i64 r.2.1, Value.int .i64 r.2.2]).toArray
 { w0 with heap := h3 }
end Go.Proofs.YtghgbikmlbildaaGreatDoor
namespace Go.Proofs.YtghgbikmlbildaaGreatDoor
open Go.RowKit
set_option linter.unusedVariables false
set_option linter.unusedSimpArgs false

section
variable {H : Type} {enc : TypeId × Value → H} {P : Program} {w : World} {base : Nat} {spare : Nat → Bool} {held : Bool}
/-- Every string and slice in what was read is within the form's reach. -/
def Wt (P : Program) (t : TypeId) (d : DataW H) : Prop := (d.weights P t).all (· ≤ reachBytes) = true
theorem wt_each : ∀ (ts : List TypeId) (ds : List (DataW H)), (DataW.weightsEach P ts ds).all (· ≤ reachBytes) = true → ∀ (i : Nat) (t : TypeId) (d : DataW H), ts[i]? = some t → ds[i]? = some d → Wt P t d
 | [], _, _, i, t, d, h, _ => by simp at h
 | _ :: _, [], _, i, t, d, _, h => by simp at h
 | t0 :: ts, d0 :: ds, h, i, t, d, ht, hd => by
  unfold DataW.weightsEach at h
  rw [List.all_append, Bool.and_eq_true] at h
  cases i with
  | zero =>
   simp at ht hd
   subst ht; subst hd
   exact h.1
  | succ i => exact wt_each ts ds h.2 i t d (by simpa using ht) (by simpa using hd)
theorem wt_all (e : TypeId) : ∀ (ds : List (DataW H)), (DataW.weightsAll P e ds).all (· ≤ reachBytes) = true → ∀ d ∈ ds, Wt P e d
 | [], _, _, h => by cases h
 | d0 :: ds, h, d, hd => by
  unfold DataW.weightsAll at h
  rw [List.all_append, Bool.and_eq_true] at h
  rcases List.mem_cons.1 hd with rfl | hd
  ·exact h.1
  ·exact wt_all e ds h.2 d hd
theorem wt_first {t : TypeId} {ts : List TypeId} {d : DataW H} {ds : List (DataW H)} (h : (DataW.weightsEach P (t :: ts) (d :: ds)).all (· ≤ reachBytes) = true) : Wt P t d := wt_each _ _ h 0 t d rfl rfl
theorem open_field {t : TypeId} {fuel : Nat} {cs : List Value} {x : DataW H × List MemPlace} {fs : Array Field} (hS : P.underlying t = some (.struct fs)) (h : DataW.trod enc P w base spare held fuel t cs = some x) (hw : Wt P t x.1) :
  ∃ n, fuel = n + 1 ∧ cs.length = P.cellsOf t ∧ ∀ (i : Nat) (f : Field) (ty : TypeId) (o m : Nat), fs[i]? = some f → f.type = ty → f.offset = o → P.cellsOf ty = m → ∃ y, DataW.trod enc P w base spare held n ty ((cs.drop o).take m) = some y ∧ Wt P ty y.1 := by
 obtain ⟨xs, n, rfl, rfl, hl, hxl, hx⟩ := DataW.trod_struct hS h
 refine ⟨n, rfl, hl, fun i f ty o m hf e1 e2 e3 => ?_⟩
 have hi := hx i f hf
 have hil : i < xs.length := by rw [hxl]; exact (Array.getElem?_eq_some_iff.1 hf).1
 rw [List.getElem?_eq_getElem hil] at hi
 refine ⟨xs[i], by rw [← e1, ← e2, ← e3, ← e1]; exact hi, ?_⟩
 unfold Wt DataW.weights at hw
 simp only [hS] at hw
 refine wt_each _ _ hw i ty _ ?_ (by rw [List.getElem?_map, List.getElem?_eq_getElem hil]; rfl)
 rw [List.getElem?_map, ← e1]
 simp [hf]
theorem open_strw {t : TypeId} {fuel : Nat} {cs : List Value} {x : DataW H × List MemPlace} (ht : P.underlying t = some .string) (h : DataW.trod enc P w base spare held fuel t cs = some x) (hw : Wt P t x.1) : ∃ s, cs = [.string s] ∧ s.size ≤ 140737488351232 := by
 obtain ⟨s, e, rfl, hs⟩ := DataW.trod_string ht h
 refine ⟨s, e, ?_⟩
 unfold Wt DataW.weights at hw
 have h1 : s.data.toList.length ≤ reachBytes := of_decide_eq_true (List.all_eq_true.1 hw _ (List.mem_singleton.2 rfl))
 rw [Array.length_toList] at h1
 exact h1
theorem open_boolw {t : TypeId} {fuel : Nat} {cs : List Value} {x : DataW H × List MemPlace} (ht : P.underlying t = some .bool) (h : DataW.trod enc P w base spare held fuel t cs = some x) : ∃ b, cs = [.bool b] := by
 obtain ⟨b, e, _⟩ := DataW.trod_bool ht h
 exact ⟨b, e⟩
theorem open_slw {α : Type} {t e : TypeId} {size fuel : Nat} {cs : List Value} {x : DataW H × List MemPlace} (R : List Value → α → Prop) (ht : P.underlying t = some (.slice e)) (hC : P.cellsOf e = size) (h0 : 0 < size)
  (h : DataW.trod enc P w base spare held fuel t cs = some x) (hw : Wt P t x.1)
  (hR : ∀ n cs' y, n < fuel → cs'.length = size → DataW.trod enc P w base spare held n e cs' = some y → Wt P e y.1 → ∃ a, R cs' a) :
  ∃ ao c l, cs = [.slice ao l.length c] ∧ SlAt w size R ao l ∧ l.length ≤ maxLen := by
 rcases DataW.trod_slice ht h with ⟨e1, _⟩ | ⟨a, len, cap, elems, rest, n, hf, e1, rfl, hb, hl, hm, hlen, hel, _, _⟩
 ·exact ⟨none, 0, [], e1, .inl rfl, Nat.zero_le _⟩
 ·have hwe : ∀ d ∈ elems.map (·.1), Wt P e d := by
   unfold Wt DataW.weights at hw
   simp only [ht] at hw
   rw [List.all_cons, List.all_append, Bool.and_eq_true, Bool.and_eq_true] at hw
   exact wt_all e _ hw.2.1
  have each : ∀ i, i < len → ∃ (x : α) (cs' : List Value), cs'.length = size ∧ (∀ k, k < size → w.cell? ((a.add (i * size)).add k) = cs'[k]?) ∧ R cs' x := fun i hi => by
   have hx := hel i hi
   have hil : i < elems.length := by omega
   rw [List.getElem?_eq_getElem hil, Option.bind_eq_some_iff] at hx
   obtain ⟨cs', hc, ht'⟩ := hx
   rw [hC] at hc
   obtain ⟨_, hcl, hat⟩ := World.cells?_some hc
   obtain ⟨x, hx⟩ := hR n cs' _ (by omega) hcl ht' (hwe _ (List.mem_map.2 ⟨_, List.getElem_mem hil, rfl⟩))
   exact ⟨x, cs', hcl, hat, hx⟩
  have all : ∀ m, m ≤ len → ∃ l : List α, l.length = m ∧ ∀ j (h : j < l.length), ∃ cs' : List Value, cs'.length = size ∧ (∀ k, k < size → w.cell? ((a.add (j * size)).add k) = cs'[k]?) ∧ R cs' l[j] := by
   intro m
   induction m with
   | zero => exact fun _ => ⟨[], rfl, fun j h => absurd h (Nat.not_lt_zero _)⟩
   | succ m ih =>
    intro hm'
    obtain ⟨l, hl', hr⟩ := ih (by omega)
    obtain ⟨x, cs', h1, h2, h3⟩ := each m (by omega)
    refine ⟨l ++ [x], by simp [hl'], fun j hj => ?_⟩
    by_cases hjl : j < l.length
    ·obtain ⟨cs2, g1, g2, g3⟩ := hr j hjl
     exact ⟨cs2, g1, g2, by rw [List.getElem_append_left hjl]; exact g3⟩
    ·have hj2 : j = m := by simp at hj; omega
     subst hj2
     refine ⟨cs', h1, h2, ?_⟩
     rw [List.getElem_append_right (by omega)]
     simpa [hl'] using h3
  obtain ⟨l, hl2, hr⟩ := all len (Nat.le_refl _)
  refine ⟨some a, cap, l, by rw [hl2]; exact e1, ?_, by omega⟩
  rcases Nat.eq_zero_or_pos len with hz | hz
  ·left; exact List.eq_nil_of_length_eq_zero (by omega)
  ·right
   obtain ⟨cs0, k1, k2, _⟩ := hr 0 (by omega)
   have hc0 : w.cell? a = some (cs0[0]'(by omega)) := by
    have := k2 0 h0
    rw [Nat.zero_mul] at this
    rw [← List.getElem?_eq_getElem, ← this]; rfl
   have hsp := World.cell?_spot (a := a) hc0
   obtain ⟨b, off, sp⟩ := a
   simp only at hsp
   subst hsp
   have hadd : ∀ k, (⟨b, off, none⟩ : Addr).add k = ⟨b, off + k, none⟩ := fun k => by unfold Addr.add; split <;> simp_all
   have hadd2 : ∀ o k, (⟨b, o, none⟩ : Addr).add k = ⟨b, o + k, none⟩ := fun o k => by unfold Addr.add; split <;> simp_all
   refine ⟨b, off, rfl, ?_, fun j hj => ?_⟩
   ·rcases Nat.lt_or_ge b w.heap.size with h | h
    ·exact h
    ·simp [World.cell?, Array.getElem?_eq_none h] at hc0
   ·obtain ⟨cs2, g1, g2, g3⟩ := hr j hj
    refine ⟨cs2, g1, fun i hi => ?_, g3⟩
    have := g2 i hi
    rwa [hadd, hadd2] at this
end

/-! ### The types of this program -/
theorem cI : Tryz.prog.cellsOf 3 = 1 := by kernel_rfl
theorem cI64 : Tryz.prog.cellsOf 2 = 1 := by kernel_rfl
theorem cS : Tryz.prog.cellsOf 9 = 1 := by kernel_rfl
theorem cB : Tryz.prog.cellsOf 4 = 1 := by kernel_rfl
theorem cArg : Tryz.prog.cellsOf 45 = 2 := by kernel_rfl
theorem cCase : Tryz.prog.cellsOf 131 = 2 := by kernel_rfl
theorem cSeg : Tryz.prog.cellsOf 133 = 6 := by kernel_rfl
theorem cFunc : Tryz.prog.cellsOf 81 = 4 := by kernel_rfl
theorem cFun : Tryz.prog.cellsOf 84 = 3 := by kernel_rfl
theorem cIns : Tryz.prog.cellsOf 50 = 10 := by kernel_rfl
theorem cTerm : Tryz.prog.cellsOf 78 = 9 := by kernel_rfl
theorem cUnit : Tryz.prog.cellsOf 27 = 6 := by kernel_rfl
theorem cTerms : Tryz.prog.cellsOf 22 = 1 := by kernel_rfl
theorem cArgs : Tryz.prog.cellsOf 46 = 1 := by kernel_rfl
theorem cCases : Tryz.prog.cellsOf 47 = 1 := by kernel_rfl
theorem cSegs : Tryz.prog.cellsOf 48 = 1 := by kernel_rfl
theorem cFuncs : Tryz.prog.cellsOf 23 = 1 := by kernel_rfl
theorem cFuns : Tryz.prog.cellsOf 24 = 1 := by kernel_rfl
theorem cCode : Tryz.prog.cellsOf 25 = 1 := by kernel_rfl
theorem len2 {cs : List Value} (h : cs.length = 2) : ∃ a b, cs = [a, b] := by
 match cs, h with
 | [a, b], _ => exact ⟨a, b, rfl⟩
theorem len3 {cs : List Value} (h : cs.length = 3) : ∃ a b c, cs = [a, b, c] := by
 match cs, h with
 | [a, b, c], _ => exact ⟨a, b, c, rfl⟩
theorem len4 {cs : List Value} (h : cs.length = 4) : ∃ a b c d, cs = [a, b, c, d] := by
 match cs, h with
 | [a, b, c, d], _ => exact ⟨a, b, c, d, rfl⟩
theorem len6 {cs : List Value} (h : cs.length = 6) : ∃ a b c d e f, cs = [a, b, c, d, e, f] := by
 match cs, h with
 | [a, b, c, d, e, f], _ => exact ⟨a, b, c, d, e, f, rfl⟩
theorem len9 {cs : List Value} (h : cs.length = 9) : ∃ a b c d e f g i j, cs = [a, b, c, d, e, f, g, i, j] := by
 match cs, h with
 | [a, b, c, d, e, f, g, i, j], _ => exact ⟨a, b, c, d, e, f, g, i, j, rfl⟩
theorem len10 {cs : List Value} (h : cs.length = 10) : ∃ a b c d e f g i j k, cs = [a, b, c, d, e, f, g, i, j, k] := by
 match cs, h with
 | [a, b, c, d, e, f, g, i, j, k], _ => exact ⟨a, b, c, d, e, f, g, i, j, k, rfl⟩
theorem one_eq {a b : Value} (h : [a] = [b]) : a = b := by injection h

section
variable {H : Type} {enc : TypeId × Value → H} {w : World} {base : Nat} {spare : Nat → Bool} {held : Bool} {fuel : Nat} {cs : List Value} {x : DataW H × List MemPlace}
theorem open_arg (h : DataW.trod enc Tryz.prog w base spare held fuel 45 cs = some x) (hw : Wt Tryz.prog 45 x.1) : ∃ a, ArgR cs a := by
 obtain ⟨n, rfl, hl, hf⟩ := open_field Tryz.underlying45 h hw
 rw [cArg] at hl
 obtain ⟨a, b, rfl⟩ := len2 hl
 obtain ⟨y0, h0, _⟩ := hf 0 _ 3 0 1 rfl rfl rfl cI
 obtain ⟨y1, h1, _⟩ := hf 1 _ 3 1 1 rfl rfl rfl cI
 obtain ⟨n0, e0, i0⟩ := open_i64 Tryz.underlying3 h0
 obtain ⟨n1, e1, i1⟩ := open_i64 Tryz.underlying3 h1
 obtain rfl := one_eq e0
 obtain rfl := one_eq e1
 exact ⟨⟨n0, n1⟩, rfl, i0, i1⟩
theorem open_case (h : DataW.trod enc Tryz.prog w base spare held fuel 131 cs = some x) (hw : Wt Tryz.prog 131 x.1) : ∃ a, CaseR cs a := by
 obtain ⟨n, rfl, hl, hf⟩ := open_field Tryz.underlying131 h hw
 rw [cCase] at hl
 obtain ⟨a, b, rfl⟩ := len2 hl
 obtain ⟨y0, h0, _⟩ := hf 0 _ 3 0 1 rfl rfl rfl cI
 obtain ⟨y1, h1, _⟩ := hf 1 _ 3 1 1 rfl rfl rfl cI
 obtain ⟨n0, e0, i0⟩ := open_i64 Tryz.underlying3 h0
 obtain ⟨n1, e1, i1⟩ := open_i64 Tryz.underlying3 h1
 obtain rfl := one_eq e0
 obtain rfl := one_eq e1
 exact ⟨⟨n0, n1⟩, rfl, i0, i1⟩
theorem open_seg (h : DataW.trod enc Tryz.prog w base spare held fuel 133 cs = some x) (hw : Wt Tryz.prog 133 x.1) : ∃ a, SegR cs a := by
 obtain ⟨n, rfl, hl, hf⟩ := open_field Tryz.underlying133 h hw
 rw [cSeg] at hl
 obtain ⟨a, b, c, d, e, f, rfl⟩ := len6 hl
 obtain ⟨y0, h0, _⟩ := hf 0 _ 3 0 1 rfl rfl rfl cI
 obtain ⟨y1, h1, w1⟩ := hf 1 _ 45 1 2 rfl rfl rfl cArg
 obtain ⟨y2, h2, w2⟩ := hf 2 _ 45 3 2 rfl rfl rfl cArg
 obtain ⟨y3, h3, _⟩ := hf 3 _ 4 5 1 rfl rfl rfl cB
 obtain ⟨n0, e0, i0⟩ := open_i64 Tryz.underlying3 h0
 obtain ⟨a1, e1, i1, j1⟩ := open_arg h1 w1
 obtain ⟨a2, e2, i2, j2⟩ := open_arg h2 w2
 obtain ⟨b3, e3⟩ := open_boolw Tryz.underlying4 h3
 obtain rfl := one_eq e0
 obtain rfl := one_eq e3
 have e1' : [b, c] = [Value.int .i64 a1.kind, .int .i64 a1.n] := e1
 have e2' : [d, e] = [Value.int .i64 a2.kind, .int .i64 a2.n] := e2
 simp only [List.cons.injEq, and_true] at e1' e2'
 obtain ⟨rfl, rfl⟩ := e1'
 obtain ⟨rfl, rfl⟩ := e2'
 exact ⟨⟨n0, a1, a2, b3⟩, rfl, i0, i1, j1, i2, j2⟩
theorem open_func (h : DataW.trod enc Tryz.prog w base spare held fuel 81 cs = some x) (hw : Wt Tryz.prog 81 x.1) : ∃ a, FuncR cs a := by
 obtain ⟨n, rfl, hl, hf⟩ := open_field Tryz.underlying81 h hw
 rw [cFunc] at hl
 obtain ⟨a, b, c, d, rfl⟩ := len4 hl
 obtain ⟨y0, h0, _⟩ := hf 0 _ 9 0 1 rfl rfl rfl cS
 obtain ⟨y1, h1, _⟩ := hf 1 _ 3 1 1 rfl rfl rfl cI
 obtain ⟨y2, h2, _⟩ := hf 2 _ 4 2 1 rfl rfl rfl cB
 obtain ⟨y3, h3, _⟩ := hf 3 _ 3 3 1 rfl rfl rfl cI
 obtain ⟨s0, e0, i0⟩ := open_str Tryz.underlying9 h0
 obtain ⟨n1, e1, i1⟩ := open_i64 Tryz.underlying3 h1
 obtain ⟨b2, e2⟩ := open_boolw Tryz.underlying4 h2
 obtain ⟨n3, e3, i3⟩ := open_i64 Tryz.underlying3 h3
 obtain rfl := one_eq e0
 obtain rfl := one_eq e1
 obtain rfl := one_eq e2
 obtain rfl := one_eq e3
 exact ⟨⟨s0, n1, b2, n3⟩, rfl, i0, i1, i3⟩
theorem open_fun (h : DataW.trod enc Tryz.prog w base spare held fuel 84 cs = some x) (hw : Wt Tryz.prog 84 x.1) : ∃ a, FunR cs a := by
 obtain ⟨n, rfl, hl, hf⟩ := open_field Tryz.underlying84 h hw
 rw [cFun] at hl
 obtain ⟨a, b, c, rfl⟩ := len3 hl
 obtain ⟨y0, h0, _⟩ := hf 0 _ 3 0 1 rfl rfl rfl cI
 obtain ⟨y1, h1, _⟩ := hf 1 _ 3 1 1 rfl rfl rfl cI
 obtain ⟨y2, h2, _⟩ := hf 2 _ 3 2 1 rfl rfl rfl cI
 obtain ⟨n0, e0, i0⟩ := open_i64 Tryz.underlying3 h0
 obtain ⟨n1, e1, i1⟩ := open_i64 Tryz.underlying3 h1
 obtain ⟨n2, e2, i2⟩ := open_i64 Tryz.underlying3 h2
 obtain rfl := one_eq e0
 obtain rfl := one_eq e1
 obtain rfl := one_eq e2
 exact ⟨⟨n0, n1, n2⟩, rfl, i0, i1, i2⟩
/-- An instruction, its name within the reach. -/
def InsN (w : World) (cs : List Value) (x : RIns) : Prop := InsR w cs x ∧ x.name.size ≤ 140737488351232
theorem open_ins (h : DataW.trod enc Tryz.prog w base spare held fuel 50 cs = some x) (hw : Wt Tryz.prog 50 x.1) : ∃ a, InsN w cs a := by
 obtain ⟨n, rfl, hl, hf⟩ := open_field Tryz.underlying50 h hw
 rw [cIns] at hl
 obtain ⟨a, b, c, d, e, f, g, i, j, k, rfl⟩ := len10 hl
 obtain ⟨y0, h0, _⟩ := hf 0 _ 3 0 1 rfl rfl rfl cI
 obtain ⟨y1, h1, w1⟩ := hf 1 _ 45 1 2 rfl rfl rfl cArg
 obtain ⟨y2, h2, w2⟩ := hf 2 _ 46 3 1 rfl rfl rfl cArgs
 obtain ⟨y3, h3, _⟩ := hf 3 _ 3 4 1 rfl rfl rfl cI
 obtain ⟨y4, h4, _⟩ := hf 4 _ 3 5 1 rfl rfl rfl cI
 obtain ⟨y5, h5, _⟩ := hf 5 _ 3 6 1 rfl rfl rfl cI
 obtain ⟨y6, h6, w6⟩ := hf 6 _ 9 7 1 rfl rfl rfl cS
 obtain ⟨y7, h7, w7⟩ := hf 7 _ 47 8 1 rfl rfl rfl cCases
 obtain ⟨y8, h8, w8⟩ := hf 8 _ 48 9 1 rfl rfl rfl cSegs
 obtain ⟨n0, e0, i0⟩ := open_i64 Tryz.underlying3 h0
 obtain ⟨a1, e1, i1, j1⟩ := open_arg h1 w1
 obtain ⟨so, sc, l2, e2, s2, b2⟩ := open_slw ArgR Tryz.underlying46 cArg (by decide) h2 w2 (fun n cs' y _ _ hy wy => open_arg hy wy)
 obtain ⟨n3, e3, i3⟩ := open_i64 Tryz.underlying3 h3
 obtain ⟨n4, e4, i4⟩ := open_i64 Tryz.underlying3 h4
 obtain ⟨n5, e5, i5⟩ := open_i64 Tryz.underlying3 h5
 obtain ⟨s6, e6, i6⟩ := open_strw Tryz.underlying9 h6 w6
 obtain ⟨co, cc, l7, e7, s7, b7⟩ := open_slw CaseR Tryz.underlying47 cCase (by decide) h7 w7 (fun n cs' y _ _ hy wy => open_case hy wy)
 obtain ⟨go, gc, l8, e8, s8, b8⟩ := open_slw SegR Tryz.underlying48 cSeg (by decide) h8 w8 (fun n cs' y _ _ hy wy => open_seg hy wy)
 obtain rfl := one_eq e0
 obtain rfl := one_eq e2
 obtain rfl := one_eq e3
 obtain rfl := one_eq e4
 obtain rfl := one_eq e5
 obtain rfl := one_eq e6
 obtain rfl := one_eq e7
 obtain rfl := one_eq e8
 have e1' : [b, c] = [Value.int .i64 a1.kind, .int .i64 a1.n] := e1
 simp only [List.cons.injEq, and_true] at e1'
 obtain ⟨rfl, rfl⟩ := e1'
 exact ⟨⟨n0, a1, l2, n3, n4, n5, s6, l7, l8⟩, ⟨⟨so, sc, co, cc, go, gc, rfl, s2, s7, s8⟩, i0, i1, j1, b2, i3, i4, i5, Nat.le_trans i6 (by decide), b7, b8⟩, i6⟩
end
section
variable {H : Type} {enc : TypeId × Value → H} {w : World} {base : Nat} {spare : Nat → Bool} {held : Bool}
theorem open_tm : ∀ (fuel : Nat) {cs : List Value} {x : DataW H × List MemPlace}, DataW.trod enc Tryz.prog w base spare held fuel 78 cs = some x → Wt Tryz.prog 78 x.1 → ∃ t, TmA w cs t := by
 intro fuel
 induction fuel using Nat.strongRecOn with
 | _ fuel ih =>
  intro cs x h hw
  obtain ⟨n, rfl, hl, hf⟩ := open_field Tryz.underlying78 h hw
  rw [cTerm] at hl
  obtain ⟨a, b, c, d, e, f, g, i, j, rfl⟩ := len9 hl
  obtain ⟨y0, h0, _⟩ := hf 0 _ 3 0 1 rfl rfl rfl cI
  obtain ⟨y1, h1, _⟩ := hf 1 _ 2 1 1 rfl rfl rfl cI64
  obtain ⟨y2, h2, _⟩ := hf 2 _ 2 2 1 rfl rfl rfl cI64
  obtain ⟨y3, h3, _⟩ := hf 3 _ 9 3 1 rfl rfl rfl cS
  obtain ⟨y4, h4, _⟩ := hf 4 _ 9 4 1 rfl rfl rfl cS
  obtain ⟨y5, h5, _⟩ := hf 5 _ 3 5 1 rfl rfl rfl cI
  obtain ⟨y6, h6, w6⟩ := hf 6 _ 22 6 1 rfl rfl rfl cTerms
  obtain ⟨y7, h7, _⟩ := hf 7 _ 9 7 1 rfl rfl rfl cS
  obtain ⟨y8, h8, _⟩ := hf 8 _ 3 8 1 rfl rfl rfl cI
  obtain ⟨n0, e0, i0⟩ := open_i64 Tryz.underlying3 h0
  obtain ⟨n1, e1, i1⟩ := open_i64 Tryz.underlying2 h1
  obtain ⟨n2, e2, i2⟩ := open_i64 Tryz.underlying2 h2
  obtain ⟨s3, e3, i3⟩ := open_str Tryz.underlying9 h3
  obtain ⟨s4, e4, i4⟩ := open_str Tryz.underlying9 h4
  obtain ⟨n5, e5, i5⟩ := open_i64 Tryz.underlying3 h5
  obtain ⟨ao, ac, l6, e6, s6, b6⟩ := open_slw (TmA w) Tryz.underlying22 cTerm (by decide) h6 w6 (fun m cs' y hm _ hy wy => ih m (by omega) hy wy)
  obtain ⟨s7, e7, i7⟩ := open_str Tryz.underlying9 h7
  obtain ⟨n8, e8, i8⟩ := open_i64 Tryz.underlying3 h8
  obtain rfl := one_eq e0
  obtain rfl := one_eq e1
  obtain rfl := one_eq e2
  obtain rfl := one_eq e3
  obtain rfl := one_eq e4
  obtain rfl := one_eq e5
  obtain rfl := one_eq e6
  obtain rfl := one_eq e7
  obtain rfl := one_eq e8
  obtain ⟨q, hq⟩ := tms_depth s6
  exact ⟨.mk n0 n1 n2 s3 s4 n5 l6 s7 n8, q + 1, ⟨ao, ac, rfl, hq⟩, i0, i1, i2, i3, i4, i5, b6, i7, i8⟩
end
set_option maxRecDepth 100000 in
/-- A unit that came in: its parts in memory, its names within the reach. -/
theorem open_unit {H : Type} {enc : TypeId × Value → H} {W : World} {base b0 : Nat} {spare : Nat → Bool} {held : Bool} {r : Reach} {v : Value} {d : DataW H} {p : List MemPlace}
  (hv : Value.okWide Tryz.prog W r b0 27 v) (h : DataW.Trod enc Tryz.prog W base spare held 27 v d p) (hw : Wt Tryz.prog 27 d) :
  ∃ (u : RUnit) (lo fo go co : Option Addr) (lc fc gc cc : Nat), v = .agg #[.string u.mdl, .int .i64 u.vsn, .slice lo u.lits.length lc, .slice fo u.funcs.length fc, .slice go u.funs.length gc, .slice co u.code.length cc] ∧ UP W u lo fo go co ∧ ∀ x ∈ u.code, x.name.size ≤ 140737488351232 := by
 obtain ⟨cs, rfl, _⟩ : ∃ cs, v = .agg cs ∧ True := by
  unfold Value.okWide at hv
  simp only [Tryz.underlying27] at hv
  obtain ⟨cs, e, _⟩ := hv
  exact ⟨cs, e, trivial⟩
 obtain ⟨fuel, hf0⟩ := h
 obtain ⟨n, rfl, hl, hf⟩ := open_field Tryz.underlying27 hf0 hw
 rw [cUnit] at hl
 have hcs : (Value.agg cs).cells.toList = cs.toList := rfl
 rw [hcs] at hl hf
 obtain ⟨a, b, c, e, f, g, hcl⟩ := len6 hl
 obtain rfl : cs = #[a, b, c, e, f, g] := Array.toList_inj.1 hcl
 obtain ⟨y0, h0, w0⟩ := hf 0 _ 9 0 1 rfl rfl rfl cS
 obtain ⟨y1, h1, _⟩ := hf 1 _ 2 1 1 rfl rfl rfl cI64
 obtain ⟨y2, h2, w2⟩ := hf 2 _ 22 2 1 rfl rfl rfl cTerms
 obtain ⟨y3, h3, w3⟩ := hf 3 _ 23 3 1 rfl rfl rfl cFuncs
 obtain ⟨y4, h4, w4⟩ := hf 4 _ 24 4 1 rfl rfl rfl cFuns
 obtain ⟨y5, h5, w5⟩ := hf 5 _ 25 5 1 rfl rfl rfl cCode
 obtain ⟨s0, e0, i0⟩ := open_str Tryz.underlying9 h0
 obtain ⟨n1, e1, i1⟩ := open_i64 Tryz.underlying2 h1
 obtain ⟨lo, lc, l2, e2, s2, b2⟩ := open_slw (TmA W) Tryz.underlying22 cTerm (by decide) h2 w2 (fun m cs' y hm _ hy wy => open_tm m hy wy)
 obtain ⟨fo, fc, l3, e3, s3, b3⟩ := open_slw FuncR Tryz.underlying23 cFunc (by decide) h3 w3 (fun m cs' y hm _ hy wy => open_func hy wy)
 obtain ⟨go, gc, l4, e4, s4, b4⟩ := open_slw FunR Tryz.underlying24 cFun (by decide) h4 w4 (fun m cs' y hm _ hy wy => open_fun hy wy)
 obtain ⟨co, cc, l5, e5, s5, b5⟩ := open_slw (InsN W) Tryz.underlying25 cIns (by decide) h5 w5 (fun m cs' y hm _ hy wy => open_ins hy wy)
 obtain rfl := one_eq e0
 obtain rfl := one_eq e1
 obtain rfl := one_eq e2
 obtain rfl := one_eq e3
 obtain rfl := one_eq e4
 obtain rfl := one_eq e5
 refine ⟨⟨s0, n1, l2, l3, l4, l5⟩, lo, fo, go, co, lc, fc, gc, cc, rfl, ⟨s2, s3, s4, s5.imp fun _ _ h => h.1, i0, i1, b2, b3, b4, b5⟩, fun x hx => ?_⟩
 obtain ⟨j, hj, rfl⟩ := List.getElem_of_mem hx
 obtain ⟨_, _, _, _, hr⟩ := s5.row hj
 obtain ⟨_, _, _, hr2⟩ := hr j hj
 exact hr2.2
end Go.Proofs.YtghgbikmlbildaaGreatDoor
