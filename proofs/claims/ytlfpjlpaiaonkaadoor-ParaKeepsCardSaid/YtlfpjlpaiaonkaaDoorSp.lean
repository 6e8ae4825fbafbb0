/- Layer 13's splitter in memory: what its block and its rows say; what each store and each append leaves of that. -/
import Derived.Test.YtlfpjlpaiaonkaaDoorPp
import Derived.Lib.OthersKept
namespace Go.Proofs.YtlfpjlpaiaonkaaDoor.Sp
open Go.RowKit Go.Proofs.YtlfpjlpaiaonkaaDoorW.PrintWords Go.Proofs.YtlfpjlpaiaonkaaDoorW.PrintLast Go.Proofs.YtlfpjlpaiaonkaaDoorW.PrintMore Go.Proofs.YtlfpjlpaiaonkaaDoorH Go.Proofs.YtlfpjlpaiaonkaaDoor.P
set_option linter.unusedVariables false
set_option linter.unusedSimpArgs false
/-- The block's cells. -/
def spC (S : Sp) (vs vo vl vp vn : Value) : Array Value :=
  #[vs, .int .u8 S.block.f0, .int .u8 S.block.f1, .int .u8 S.block.f2, .int .u8 S.block.f3, .int .i64 S.block.f4, .int .i64 S.block.f5, .bool S.hard, vo, .int .u8 S.base, vl, .int .i64 S.brk, vp, vn, .int .i64 S.count, .bool S.started]
/-- The splitter lies in block g; its rows are of blocks that are ok; the styles lie in the elder world w0. -/
structure SpV (w0 w : World) (g : Nat) (ok : Nat → Prop) (S : Sp) (vs vo vl vp vn : Value) : Prop where
  blk : w.heap[g]? = some (.cells (spC S vs vo vl vp vn) tSp (0, 0))
  new : w0.heap.size ≤ g
  sty : ∃ A c, vs = .slice A S.styles.length c ∧ S.styles.length ≤ c ∧ Kd.C kSty w0 A S.styles.length S.styles
  out : Kd.S kPar tPar w w0.heap.size (fun k => ok k ∧ some k ≠ vl.ownBlock) vo S.out
  L : Kd.R kPos tPos w w0.heap.size ok vl S.L
  pieces : Kd.R (Kd.int .i64) tInt w w0.heap.size ok vp S.pieces
  opn : Kd.R kOpn tOpn w w0.heap.size ok vn S.opn
def IsSp (w0 w : World) (g : Nat) (ok : Nat → Prop) (S : Sp) : Prop := ∃ vs vo vl vp vn, SpV w0 w g ok S vs vo vl vp vn
/-- No row of the splitter's. -/
def noRow (o : Obj) : Prop := ∀ c q, q ∈ [tPos, tInt, tPar, tOpn] → o ≠ .cells c q (0, 0)
/-- What a method leaves alone: all but its own block and rows that are ok. -/
def Kp (w w' : World) (g : Nat) (ok : Nat → Prop) : Prop := w.heap.size ≤ w'.heap.size ∧ ∀ k o, w.heap[k]? = some o → k ≠ g → (¬ ok k ∨ noRow o) → w'.heap[k]? = some o
section
variable {w w1 w2 : World} {g : Nat} {ok : Nat → Prop}
theorem Kp.refl (w : World) (g : Nat) (ok : Nat → Prop) : Kp w w g ok := ⟨Nat.le_refl _, fun _ _ h _ _ => h⟩
theorem Kp.trans (h : Kp w w1 g ok) (h' : Kp w1 w2 g ok) : Kp w w2 g ok :=
  ⟨Nat.le_trans h.1 h'.1, fun k o hk hg ho => h'.2 k o (h.2 k o hk hg ho) hg ho⟩
theorem Kp.below (h : Kp w w1 g ok) (hb : Below w1.heap.size w1 w2) : Kp w w2 g ok :=
  ⟨Nat.le_trans h.1 hb.size, fun k o hk hg ho => have h1 := h.2 k o hk hg ho; (hb.block k (blk_lt h1)).trans h1⟩
theorem Kp.alloc (h : Kp w w1 g ok) (o : Obj) : Kp w (w1.alloc o) g ok := h.below ((Below.refl _ _).alloc (Nat.le_refl _) _)
theorem Kp.drewN (h : Kp w w1 g ok) (n : Nat) : Kp w (w1.drewN n) g ok := h.below (pw_below_drewN (Below.refl _ _) n)
theorem Kp.drew (h : Kp w w1 g ok) : Kp w w1.drew g ok := h.below (below_drew (Below.refl _ _))
theorem Kp.set_ (h : Kp w w1 g ok) (i : Nat) (u : Value) : Kp w (w1.setCell ⟨g, i, none⟩ u) g ok :=
  ⟨by simpa [World.setCell] using h.1, fun k o hk hg ho => (Below.heap_setCell w1 ⟨g, i, none⟩ u k hg).trans (h.2 k o hk hg ho)⟩
theorem Kp.grown {v : Value} (h : Kp w w1 g ok) (hg : w1.grownBy w2 v.ownBlock) (hv : ∀ k, v.ownBlock = some k → ok k ∧ ∃ q, q ∈ [tPos, tInt, tPar, tOpn] ∧ ∃ c, w1.heap[k]? = some (.cells c q (0, 0))) : Kp w w2 g ok :=
  ⟨Nat.le_trans h.1 hg.size, fun k o hk hne ho => by
    have h1 := h.2 k o hk hne ho
    refine (hg.block k (blk_lt h1) (fun e => ?_)).trans h1
    obtain ⟨h2, q, hq, c, hc⟩ := hv k e.symm
    rcases ho with ho | ho
    · exact ho h2
    · rw [h1] at hc
      exact ho c q hq (Option.some.inj hc)⟩
theorem Kp.row {α : Type} {d : Kd α} {q base : Nat} {v : Value} {xs : List α} (hq : q ∈ [tPos, tInt, tPar, tOpn]) (h : d.R q w base ok v xs) : ∀ k, v.ownBlock = some k → ok k ∧ ∃ q, q ∈ [tPos, tInt, tPar, tOpn] ∧ ∃ c, w.heap[k]? = some (.cells c q (0, 0)) :=
  fun k hk => ⟨h.1 k hk, q, hq, Kd.R_typed h k hk⟩
/-- What is no row stays. -/
theorem Kp.iter (h : Kp w w1 g ok) {k pos : Nat} {s : ByteArray} (hk : w.heap[k]? = some (.stringIter s pos)) (hg : k ≠ g) : w1.heap[k]? = some (.stringIter s pos) := h.2 k _ hk hg (.inr fun _ _ _ e => by cases e)
theorem Kp.iterAt (h : Kp w w2 g ok) {k : Nat} (hk : w.heap.size ≤ k) (s : ByteArray) (pos : Nat) : Kp w (w2.iterAt k s pos) g ok :=
  ⟨by rw [Lib.iterAt_size]; exact h.1, fun j o hj hg ho => (Lib.iterAt_other w2 k j s pos (by have := blk_lt hj; omega)).trans (h.2 j o hj hg ho)⟩
end
section
variable {w0 w w1 : World} {g : Nat} {ok : Nat → Prop} {S : Sp} {vs vo vl vp vn : Value}
theorem SpV.lt (h : SpV w0 w g ok S vs vo vl vp vn) : g < w.heap.size := blk_lt h.blk
/-- New blocks, draws. -/
theorem SpV.below (h : SpV w0 w g ok S vs vo vl vp vn) (hb : Below w.heap.size w w1) : SpV w0 w1 g ok S vs vo vl vp vn :=
  ⟨(hb.block g h.lt).trans h.blk, h.new, h.sty, Kd.S_below h.out hb, Kd.R_below h.L hb, Kd.R_below h.pieces hb, Kd.R_below h.opn hb⟩
theorem SpV.alloc (h : SpV w0 w g ok S vs vo vl vp vn) (o : Obj) : SpV w0 (w.alloc o) g ok S vs vo vl vp vn := h.below ((Below.refl _ _).alloc (Nat.le_refl _) _)
theorem SpV.drewN (h : SpV w0 w g ok S vs vo vl vp vn) (n : Nat) : SpV w0 (w.drewN n) g ok S vs vo vl vp vn := h.below (pw_below_drewN (Below.refl _ _) n)
theorem SpV.drew (h : SpV w0 w g ok S vs vo vl vp vn) : SpV w0 w.drew g ok S vs vo vl vp vn := h.below (below_drew (Below.refl _ _))
/-- A store into a cell of the block. -/
theorem SpV.set_ {S' : Sp} {vo' vl' vp' vn' : Value} (h : SpV w0 w g ok S vs vo vl vp vn) (i : Nat) (u : Value) (he : (spC S vs vo vl vp vn).setIfInBounds i u = spC S' vs vo' vl' vp' vn')
    (hs : S'.styles = S.styles) (ho : Kd.S kPar tPar w w0.heap.size (fun k => ok k ∧ some k ≠ vl'.ownBlock) vo' S'.out) (hl : Kd.R kPos tPos w w0.heap.size ok vl' S'.L) (hp : Kd.R (Kd.int .i64) tInt w w0.heap.size ok vp' S'.pieces) (hn : Kd.R kOpn tOpn w w0.heap.size ok vn' S'.opn) :
    SpV w0 (w.setCell ⟨g, i, none⟩ u) g ok S' vs vo' vl' vp' vn' :=
  ⟨by rw [← he]; exact blk_set h.blk i u, h.new, by rw [hs]; exact h.sty, Kd.S_set ho h.blk (by decide) i u, Kd.R_set hl h.blk (by decide) i u, Kd.R_set hp h.blk (by decide) i u, Kd.R_set hn h.blk (by decide) i u⟩
/-- The same, where no row is turned. -/
theorem SpV.set0 {S' : Sp} (h : SpV w0 w g ok S vs vo vl vp vn) (i : Nat) (u : Value) (he : (spC S vs vo vl vp vn).setIfInBounds i u = spC S' vs vo vl vp vn)
    (hs : S'.styles = S.styles) (ho : S'.out = S.out) (hl : S'.L = S.L) (hp : S'.pieces = S.pieces) (hn : S'.opn = S.opn) : SpV w0 (w.setCell ⟨g, i, none⟩ u) g ok S' vs vo vl vp vn :=
  h.set_ i u he hs (by rw [ho]; exact h.out) (by rw [hl]; exact h.L) (by rw [hp]; exact h.pieces) (by rw [hn]; exact h.opn)
/-- The cells, one by one. -/
theorem sp_cells (h : w.heap[g]? = some (.cells (spC S vs vo vl vp vn) tSp (0, 0))) :
    w.cell? ⟨g, 0, none⟩ = some vs ∧ w.cell? ⟨g, 1, none⟩ = some (.int .u8 S.block.f0) ∧ w.cell? ⟨g, 2, none⟩ = some (.int .u8 S.block.f1) ∧ w.cell? ⟨g, 3, none⟩ = some (.int .u8 S.block.f2) ∧ w.cell? ⟨g, 4, none⟩ = some (.int .u8 S.block.f3) ∧ w.cell? ⟨g, 5, none⟩ = some (.int .i64 S.block.f4) ∧ w.cell? ⟨g, 6, none⟩ = some (.int .i64 S.block.f5) ∧
    w.cell? ⟨g, 7, none⟩ = some (.bool S.hard) ∧ w.cell? ⟨g, 8, none⟩ = some vo ∧ w.cell? ⟨g, 9, none⟩ = some (.int .u8 S.base) ∧ w.cell? ⟨g, 10, none⟩ = some vl ∧ w.cell? ⟨g, 11, none⟩ = some (.int .i64 S.brk) ∧ w.cell? ⟨g, 12, none⟩ = some vp ∧ w.cell? ⟨g, 13, none⟩ = some vn ∧ w.cell? ⟨g, 14, none⟩ = some (.int .i64 S.count) ∧ w.cell? ⟨g, 15, none⟩ = some (.bool S.started) ∧ ∀ i, w.frozen? ⟨g, i, none⟩ = false :=
  ⟨blk_cell h 0, blk_cell h 1, blk_cell h 2, blk_cell h 3, blk_cell h 4, blk_cell h 5, blk_cell h 6, blk_cell h 7, blk_cell h 8, blk_cell h 9, blk_cell h 10, blk_cell h 11, blk_cell h 12, blk_cell h 13, blk_cell h 14, blk_cell h 15, blk_frozen h⟩
/-- An iterator's step. -/
theorem R_iter {α : Type} {d : Kd α} {e : Nat} {base : Nat} {v : Value} {xs : List α} (h : d.R e w base ok v xs) {k pos : Nat} {s : ByteArray} (hk : w.heap[k]? = some (.stringIter s pos)) (pos' : Nat) : d.R e (w.iterAt k s pos') base ok v xs :=
  Kd.R_mono (Kd.R_move (Kd.R_bound h) (fun j hj => Lib.iterAt_other w k j s pos' (by
    rintro rfl
    obtain ⟨_, _, _, q, _, cells, hc⟩ := hj
    rw [hk] at hc
    cases hc))) (fun _ hj => hj.1)
theorem S_iter {α : Type} {d : Kd α} {e : Nat} {base : Nat} {v : Value} {xs : List α} (h : Kd.S d e w base ok v xs) {k pos : Nat} {s : ByteArray} (hk : w.heap[k]? = some (.stringIter s pos)) (pos' : Nat) : Kd.S d e (w.iterAt k s pos') base ok v xs :=
  let ⟨f, h⟩ := h; ⟨f, R_iter h hk pos'⟩
theorem SpV.iterAt (h : SpV w0 w g ok S vs vo vl vp vn) {k pos : Nat} {s : ByteArray} (hk : w.heap[k]? = some (.stringIter s pos)) (pos' : Nat) : SpV w0 (w.iterAt k s pos') g ok S vs vo vl vp vn :=
  ⟨(Lib.iterAt_other w k g s pos' (by rintro rfl; rw [h.blk] at hk; cases hk)).trans h.blk, h.new, h.sty, S_iter h.out hk pos', R_iter h.L hk pos', R_iter h.pieces hk pos', R_iter h.opn hk pos'⟩
/-- An append onto L has been run: what stands, once its value is stored. -/
theorem SpV.grown_L {v1 : Value} {L' : List Pos} (h : SpV w0 w g ok S vs vo vl vp vn) (hr : Kd.R kPos tPos w1 w0.heap.size ok v1 L') (hg : w.grownBy w1 vl.ownBlock) (hat : v1.ownBlock = vl.ownBlock ∨ ∃ b, v1.ownBlock = some b ∧ w.heap.size ≤ b) :
    w1.heap[g]? = some (.cells (spC S vs vo vl vp vn) tSp (0, 0)) ∧ SpV w0 (w1.setCell ⟨g, 10, none⟩ v1) g ok { S with L := L' } vs vo v1 vp vn := by
  have hb := blk_grown h.blk hg (Kd.R_ne h.L h.blk (by decide))
  refine ⟨hb, ⟨blk_set hb 10 v1, h.new, h.sty, ?_, Kd.R_set hr hb (by decide) 10 v1, Kd.R_set (Kd.R_over h.pieces h.L (by decide) hg) hb (by decide) 10 v1, Kd.R_set (Kd.R_over h.opn h.L (by decide) hg) hb (by decide) 10 v1⟩⟩
  refine Kd.S_set (Kd.S_mono (Kd.S_move (Kd.S_bound h.out) (fun k hk => hg.block k hk.2.2.1 hk.1.2)) (fun k hk => ⟨hk.1.1, ?_⟩)) hb (by decide) 10 v1
  rcases hat with hat | ⟨b, hb1, hle⟩
  · rw [hat]; exact hk.1.2
  · rw [hb1]
    intro he
    injection he with he
    have := hk.2.2.1
    omega
theorem SpV.grown_pieces {v1 : Value} {l' : List Int} (h : SpV w0 w g ok S vs vo vl vp vn) (hr : Kd.R (Kd.int .i64) tInt w1 w0.heap.size ok v1 l') (hg : w.grownBy w1 vp.ownBlock) :
    w1.heap[g]? = some (.cells (spC S vs vo vl vp vn) tSp (0, 0)) ∧ SpV w0 (w1.setCell ⟨g, 12, none⟩ v1) g ok { S with pieces := l' } vs vo vl v1 vn := by
  have hb := blk_grown h.blk hg (Kd.R_ne h.pieces h.blk (by decide))
  exact ⟨hb, ⟨blk_set hb 12 v1, h.new, h.sty, Kd.S_set (Kd.S_over' h.out (fun k hk => Kd.R_typed h.pieces k hk) (by decide) hg) hb (by decide) 12 v1, Kd.R_set (Kd.R_over h.L h.pieces (by decide) hg) hb (by decide) 12 v1, Kd.R_set hr hb (by decide) 12 v1, Kd.R_set (Kd.R_over h.opn h.pieces (by decide) hg) hb (by decide) 12 v1⟩⟩
theorem SpV.grown_opn {v1 : Value} {l' : List Opn} (h : SpV w0 w g ok S vs vo vl vp vn) (hr : Kd.R kOpn tOpn w1 w0.heap.size ok v1 l') (hg : w.grownBy w1 vn.ownBlock) :
    w1.heap[g]? = some (.cells (spC S vs vo vl vp vn) tSp (0, 0)) ∧ SpV w0 (w1.setCell ⟨g, 13, none⟩ v1) g ok { S with opn := l' } vs vo vl vp v1 := by
  have hb := blk_grown h.blk hg (Kd.R_ne h.opn h.blk (by decide))
  exact ⟨hb, ⟨blk_set hb 13 v1, h.new, h.sty, Kd.S_set (Kd.S_over' h.out (fun k hk => Kd.R_typed h.opn k hk) (by decide) hg) hb (by decide) 13 v1, Kd.R_set (Kd.R_over h.L h.opn (by decide) hg) hb (by decide) 13 v1, Kd.R_set (Kd.R_over h.pieces h.opn (by decide) hg) hb (by decide) 13 v1, Kd.R_set hr hb (by decide) 13 v1⟩⟩
end
/-! ### append as an operation of the walk -/
section
variable {P : Program} {ops : Array Oper} {rest : List Oper} {o : Oper} {a : Act} {Q : Exit → Act → World → Prop} {w0 W : World} {g : Nat} {ok : Nat → Prop} {S : Sp} {vs vo vl vp vn : Value}
theorem info_pos : (Tryd.prog.info? tPos).map (fun i => (i.zero, i.size, i.bytes)) = some (some (.agg #[(.int .i32 0), (.int .i64 0), (.bool false)]), 3, 24) := by kernel_rfl
theorem info_int : (Tryd.prog.info? tInt).map (fun i => (i.zero, i.size, i.bytes)) = some (some (.int .i64 0), 1, 8) := by kernel_rfl
theorem app_L (HV : SpV w0 W g ok S vs vo vl vp vn) (hgd : o.guard = none) (s x : Operand) (t : TypeId) (ho : o.op = .call { callee := .builtin .append, args := #[s, x], argTypes := #[t, t] }) (ht : Tryd.prog.underlying t = some (.slice tPos)) (p : Pos)
    (hs : a.eval s = vl) {bx : Nat} (hx : a.eval x = .slice (some ⟨bx, 0, none⟩) 1 1) (hbx : bx = W.heap.size) (HB : Below w0.heap.size w0 W) (hfresh : ∀ k, W.heap.size ≤ k → ok k) (hl : S.L.length ≤ 1000000000000)
    (h : ∀ A c w1, w1.heap[g]? = some (.cells (spC S vs vo vl vp vn) tSp (0, 0)) → SpV w0 (w1.setCell ⟨g, 10, none⟩ (.slice A (S.L.length + 1) c)) g ok { S with L := S.L ++ [p] } vs vo (.slice A (S.L.length + 1) c) vp vn → Below w0.heap.size w0 (w1.setCell ⟨g, 10, none⟩ (.slice A (S.L.length + 1) c)) → Kp W (w1.setCell ⟨g, 10, none⟩ (.slice A (S.L.length + 1) c)) g ok → wpList Tryd.prog ops Q rest (a.put o.dst (.slice A (S.L.length + 1) c)) w1) :
    wpList Tryd.prog ops Q (o :: rest) a (W.alloc (.cells #[.int .i32 p.f0, .int .i64 p.f1, .bool p.f2] tPos)) := by
  subst hbx
  refine Kd.R_append kPos (w0 := w0) w0.heap.size hgd s x t tPos (.agg #[(.int .i32 0), (.int .i64 0), (.bool false)]) 24 ho ht info_pos rfl (by decide) (by decide) vl S.L p [.int .i32 p.f0, .int .i64 p.f1, .bool p.f2] ok (fun _ => False) hs hx (k41_mkM _ _ _ p) (fun _ hk => hk.elim) hfresh HV.L HB HB.size (by omega) ?_
  intro v1 w1 hr hb hg hat
  obtain ⟨A, c, rfl⟩ := Kd.R_slice hr
  rw [List.length_append, List.length_singleton] at hr hat ⊢
  obtain ⟨h1, h2⟩ := HV.grown_L hr hg hat
  exact h A c w1 h1 h2 (hb.setCell (by exact HV.new) _) (((Kp.refl W g ok).grown hg (Kp.row (by simp) HV.L)).set_ 10 _)
theorem app_pieces (HV : SpV w0 W g ok S vs vo vl vp vn) (hgd : o.guard = none) (s x : Operand) (t : TypeId) (ho : o.op = .call { callee := .builtin .append, args := #[s, x], argTypes := #[t, t] }) (ht : Tryd.prog.underlying t = some (.slice tInt)) (p : Int)
    (hs : a.eval s = vp) {bx : Nat} (hx : a.eval x = .slice (some ⟨bx, 0, none⟩) 1 1) (hbx : bx = W.heap.size) (HB : Below w0.heap.size w0 W) (hfresh : ∀ k, W.heap.size ≤ k → ok k) (hl : S.pieces.length ≤ 1000000000000)
    (h : ∀ A c w1, w1.heap[g]? = some (.cells (spC S vs vo vl vp vn) tSp (0, 0)) → SpV w0 (w1.setCell ⟨g, 12, none⟩ (.slice A (S.pieces.length + 1) c)) g ok { S with pieces := S.pieces ++ [p] } vs vo vl (.slice A (S.pieces.length + 1) c) vn → Below w0.heap.size w0 (w1.setCell ⟨g, 12, none⟩ (.slice A (S.pieces.length + 1) c)) → Kp W (w1.setCell ⟨g, 12, none⟩ (.slice A (S.pieces.length + 1) c)) g ok → wpList Tryd.prog ops Q rest (a.put o.dst (.slice A (S.pieces.length + 1) c)) w1) :
    wpList Tryd.prog ops Q (o :: rest) a (W.alloc (.cells #[.int .i64 p] tInt)) := by
  subst hbx
  refine Kd.R_append (Kd.int .i64) (w0 := w0) w0.heap.size hgd s x t tInt (.int .i64 0) 8 ho ht info_int rfl (by decide) (by decide) vp S.pieces p [.int .i64 p] ok (fun _ => False) hs hx rfl (fun _ hk => hk.elim) hfresh HV.pieces HB HB.size (by omega) ?_
  intro v1 w1 hr hb hg hat
  obtain ⟨A, c, rfl⟩ := Kd.R_slice hr
  rw [List.length_append, List.length_singleton] at hr hat ⊢
  obtain ⟨h1, h2⟩ := HV.grown_pieces hr hg
  exact h A c w1 h1 h2 (hb.setCell (by exact HV.new) _) (((Kp.refl W g ok).grown hg (Kp.row (by simp) HV.pieces)).set_ 12 _)
end
end Go.Proofs.YtlfpjlpaiaonkaaDoor.Sp
