/-
The evaluator's operations do what the model's do: no condition.
-/
import Derived.Test.YtemdgilifnhdpaaGreatDoorEvA
set_option linter.unusedVariables false
set_option linter.unusedSimpArgs false
set_option linter.unusedSectionVars false
namespace Go.Proofs.YtemdgilifnhdpaaGreatDoor.Ev
section
variable {P : Program} {sm : Sum} {ν : Nat → Value} {m : Mu} {h : H} {w : World}
theorem Rs.rep {n : Nat} {z : List AV} {zs : List Value} (hr : Rs n m ν z zs) : ∀ c, Rs n m ν (List.replicate c z).flatten (List.replicate c zs).flatten
  | 0 => by simp; exact Rs.nil
  | c + 1 => by simp only [List.replicate_succ, List.flatten_cons]; exact hr.app (Rs.rep hr c)
theorem len_rep {α : Type} (z : List α) : ∀ c, (List.replicate c z).flatten.length = c * z.length
  | 0 => by simp
  | c + 1 => by simp only [List.replicate_succ, List.flatten_cons, List.length_append, len_rep z c, Nat.add_mul]; omega
theorem getMod : ∀ (c : Nat) (z : List Value) (j : Nat), j < c * z.length → (List.replicate c z).flatten[j]? = z[j % z.length]?
  | 0, z, j, h => by simp at h
  | c + 1, z, j, h => by
    simp only [List.replicate_succ, List.flatten_cons]
    by_cases hj : j < z.length
    · rw [List.getElem?_append_left hj, Nat.mod_eq_of_lt hj]
    · have hj' : z.length ≤ j := Nat.le_of_not_lt hj
      rw [List.getElem?_append_right hj', getMod c z _ (by rw [Nat.add_mul] at h; omega)]
      congr 1
      conv => rhs; rw [show j = (j - z.length) + z.length from by omega]
      rw [Nat.add_mod_right]
theorem repCells (z : Array Value) (c : Nat) : (madeCells z (c * z.size)).toList = (List.replicate c z.toList).flatten := by
  apply List.ext_getElem?
  intro j
  have e : (madeCells z (c * z.size)).toList = (List.range (c * z.size)).map fun i => z[i % z.size]! := by
    simp [madeCells, Array.toList_map, Array.toList_range]
  rw [e]
  by_cases hj : j < c * z.size
  · rw [getMod c z.toList j (by simpa using hj)]
    have hz : 0 < z.size := by
      rcases Nat.eq_zero_or_pos z.size with h0 | h0
      · rw [h0] at hj; omega
      · exact h0
    have hlt : j % z.size < z.size := Nat.mod_lt _ hz
    simp [hj, hlt]
  · rw [List.getElem?_eq_none (by simp; omega), List.getElem?_eq_none]
    rw [len_rep]; simp; omega
theorem makeSlice_s (hν : ∀ k, (ν k).oneCell' = true) {t : TypeId} {kl kc : IntKind} {l c : Int} {nx : Nx} {h' : H} {u v : Value} (he : opMakeSlice P t [.int kl l, .int kc c] h = some (nx, h')) (hs : SR m ν h w)
    (h1 : R h.next m ν (.int kl l) u) (h2 : R h.next m ν (.int kc c) v) : ∃ a, nx = .val a ∧ VS ν m h w a h' ((Instr.makeSlice t u v).run P w) := by
  cases R_int h1; cases R_int h2
  obtain ⟨d, hd, he⟩ := bnd_eq he
  cases d with
  | slice e =>
    obtain ⟨ei, hei, he⟩ := bnd_eq he
    obtain ⟨z, hz, he⟩ := bnd_eq he
    rw [bcond] at he
    split at he
    · rename_i hc
      cases he
      simp only [Bool.and_eq_true] at hc
      obtain ⟨⟨⟨⟨c1, c2⟩, c3⟩, c4⟩, c5⟩ := hc
      have c1 := dec_t c1
      have c2 := dec_t c2
      have c3 := dec_t c3
      have c4 := of_beq c4
      have c5 := Nat.le_of_ble_eq_true c5
      obtain ⟨i, zv, hi, hzv, ho⟩ := zeroOf_eq hz
      have : i = ei := by rw [hi] at hei; exact Option.some.inj hei
      subst this
      have hcz := R_cells hν (ofVal_R (n := h.next) (m := m) (ν := ν) ho)
      have hzs : zv.cells.size = i.size := by have := hcz.len; simp at this; omega
      have hrun := run_make (P := P) w t e i zv hd hi hzv kl kc l c c1 c2 (by
        have e1 : (i.bytes : Int) * c ≤ 100000 * 100000 := Int.mul_le_mul (by omega) c3 (by omega) (by omega)
        omega) (by omega)
      have hsz : (madeCells zv.cells (c.toNat * i.size)).toList = (List.replicate c.toNat zv.cells.toList).flatten := by rw [← hzs]; exact repCells _ _
      have hlen : (madeCells zv.cells (c.toNat * i.size)).size = c.toNat * i.size := by simp [madeCells]
      have hrep := hcz.rep c.toNat
      have hl := hrep.len
      have hp := newRow_s hs e (List.replicate c.toNat z.cells).flatten (c.toNat * i.size) false false (madeCells zv.cells (c.toNat * i.size)) 0 0 (by
        rw [hsz, ← hl, List.take_length]; exact hrep) (by omega) (fun _ => hlen) (.inl rfl)
      refine ⟨_, rfl, .slice (some ⟨w.heap.size, 0, none⟩) l.toNat c.toNat, _, _, hrun, hp, ?_⟩
      simp only [R]
      refine ⟨Nat.lt_succ_self _, 0, c.toNat, ?_, by omega, fun _ => ?_, by simp⟩
      · simp
      · simp
    · cases he
  | _ => cases he
theorem fill_size {place : Nat → Option (Nat × Nat)} : ∀ {qs : List (Nat × Value)} {cells cells' : Array Value}, Instr.fill place cells qs = some cells' → cells'.size = cells.size
  | [], cells, cells', he => by cases he; rfl
  | (i, v) :: qs, cells, cells', he => by
    simp only [Instr.fill] at he
    split at he
    · cases he
    · split at he
      · cases he
      · rw [fill_size he, ← Array.foldl_toList]
        have key : ∀ (l : List (Value × Nat)) (off : Nat) (c : Array Value), (l.foldl (fun cs (x : Value × Nat) => cs.setIfInBounds (off + x.2) x.1) c).size = c.size := by
          intro l off
          induction l with
          | nil => intro c; rfl
          | cons x l ih => intro c; simp only [List.foldl_cons]; rw [ih]; simp
        exact key _ _ _
theorem buildSlice_s (hν : ∀ k, (ν k).oneCell' = true) {t : TypeId} {len : Nat} {parts : Array (Nat × Operand)} {vs : List AV} {nx : Nx} {h' : H} {ρ : Operand → Value} (he : opBuildSlice P t len parts vs h = some (nx, h')) (hs : SR m ν h w)
    (hr : Rs h.next m ν vs (parts.toList.map fun x => ρ x.2)) : ∃ a, nx = .val a ∧ VS ν m h w a h' ((Instr.buildSlice t len (parts.map fun x => (x.1, ρ x.2))).run P w) := by
  obtain ⟨d, hd, he⟩ := bnd_eq he
  cases d with
  | slice e =>
    obtain ⟨s, hsz, he⟩ := bnd_eq he
    obtain ⟨ei, hei, rfl⟩ := szOf_eq hsz
    obtain ⟨z, hz, he⟩ := bnd_eq he
    obtain ⟨i, zv, hi, hzv, ho⟩ := zeroOf_eq hz
    have : i = ei := by rw [hi] at hei; exact Option.some.inj hei
    subst this
    rw [bcond] at he
    split at he
    · rename_i hc
      simp only [Bool.and_eq_true] at hc
      have c1 := of_beq hc.1
      have c2 := Nat.le_of_ble_eq_true hc.2
      obtain ⟨l, hl, he⟩ := map_eq he
      cases he
      obtain ⟨p1, p2⟩ := parts_s hr
      have hcz := R_cells hν (ofVal_R (n := h.next) (m := m) (ν := ν) ho)
      have hzs : zv.cells.size = i.size := by have := hcz.len; simp at this; omega
      have hsz : (madeCells zv.cells (len * i.size)).toList = (List.replicate len zv.cells.toList).flatten := by rw [← hzs]; exact repCells _ _
      have hrep := hcz.rep len
      rw [← hsz] at hrep
      obtain ⟨cells', g1, g2⟩ := fill_s hν hl p1 p2 hrep
      have hl2 := g2.len
      have hfl : cells'.size = len * i.size := by
        have := fill_size g1
        rw [this]; simp [madeCells]
      simp only [Array.length_toList] at hl2
      have hp := newRow_s hs e l (len * i.size) false false cells' 0 0 (by rw [← hl2, List.take_of_length_le (by simp)]; exact g2) (by omega) (fun _ => hfl) (.inl rfl)
      refine ⟨_, rfl, .slice (some ⟨w.heap.size, 0, none⟩) len len, _, _, ?_, hp, ?_⟩
      · have h24 : ¬ len * i.size > 2 ^ 24 := by omega
        have hcell : ((Array.range (len * i.size)).map fun j => zv.cells[j % zv.cells.size]!) = madeCells zv.cells (len * i.size) := rfl
        by_cases h0 : len * i.size = 0
        · have hmk : madeCells zv.cells (len * i.size) = #[] := by rw [h0]; simp [madeCells]
          rw [hmk] at g1
          have hz0 : ((Array.range (len * i.size)).map fun j => (#[] : Array Value)[j % (#[] : Array Value).size]!) = #[] := by rw [h0]; simp
          simp only [Instr.buildSlice, Sem.run_bind, run_und hd, Result.andThen_ok, run_size hi, Sem.run_ite, if_neg h24, if_pos h0, Sem.run_pure]
          simp only [hz0, g1, Sem.run_bind, run_newRow, Result.andThen_ok, Sem.run_pure]
        · simp only [Instr.buildSlice, Sem.run_bind, run_und hd, Result.andThen_ok, run_size hi, Sem.run_ite, if_neg h24, if_neg h0, run_zero hi hzv, Sem.run_pure]
          simp only [hcell, g1, Sem.run_bind, run_newRow, Result.andThen_ok, Sem.run_pure]
      · simp only [R]
        refine ⟨Nat.lt_succ_self _, 0, len, ?_, by omega, fun _ => ?_, by simp⟩
        · simp
        · simp
    · cases he
  | _ => cases he
end
section
variable {P : Program} {sm : Sum} {ν : Nat → Value} {m : Mu} {h : H} {w : World}
theorem bytes_map : ∀ {l : List AV} {s : List Nat}, bytesA l = some s → ∃ ns : List Int, l = ns.map (AV.int .u8) ∧ s = ns.map Int.toNat ∧ (∀ b ∈ s, b < 256) ∧ ∀ i ∈ ns, 0 ≤ i
  | [], s, he => by cases he; exact ⟨[], rfl, rfl, by simp, by simp⟩
  | a :: l, s, he => by
    cases a with
    | int k n =>
      cases k with
      | u8 =>
        simp only [bytesA, bcond] at he
        split at he
        · rename_i hn
          obtain ⟨y, hy, rfl⟩ := map_eq he
          obtain ⟨ns, rfl, rfl, hlt, hge⟩ := bytes_map hy
          simp only [Bool.and_eq_true] at hn
          refine ⟨n :: ns, rfl, rfl, fun b hb => ?_, fun i hi => ?_⟩
          · rcases List.mem_cons.1 hb with rfl | hb
            · simpa [Nat.blt_eq] using hn.2
            · exact hlt b hb
          · rcases List.mem_cons.1 hi with rfl | hi
            · exact dec_t hn.1
            · exact hge i hi
        · cases he
      | _ => cases he
    | _ => cases he
theorem Rs_ints {n : Nat} : ∀ {ns : List Int} {vs : List Value}, Rs n m ν (ns.map (AV.int .u8)) vs → vs = ns.map (Value.int .u8)
  | [], vs, hr => by rw [List.map_nil, Rs_nil] at hr; exact hr
  | i :: ns, vs, hr => by
    obtain ⟨v, us, rfl, h1, h2⟩ := Rs_cons.1 hr
    rw [R_int h1, Rs_ints h2]; rfl
theorem fold_push : ∀ (ns : List Int) (s : ByteArray), ns.foldl (fun r n => r.push (UInt8.ofNat n.toNat)) s = s ++ bs (ns.map Int.toNat)
  | [], s => by apply ByteArray.ext; simp [bs, ByteArray.data_append]
  | i :: ns, s => by
    rw [List.foldl_cons, fold_push ns]
    apply ByteArray.ext
    simp [bs, ByteArray.data_append, ByteArray.push]
theorem bytesOf_s {b off len cap es : Nat} {op : Bool} {s : List Nat} (he : bytesOf h (.slice b off len cap es op) = some s) (hs : SR m ν h w) :
    ∃ ns : List Int, s = ns.map Int.toNat ∧ (∀ b ∈ s, b < 256) ∧ (∀ i ∈ ns, 0 ≤ i) ∧ ns.length = len ∧ ∀ (j : Nat) (i : Int), ns[j]? = some i → w.cell? ⟨(m b).1, (m b).2.1 + off + j, none⟩ = some (.int .u8 i) := by
  simp only [bytesOf] at he
  cases hb : h.t.get b with
  | none => rw [hb] at he; cases he
  | some o =>
    rw [hb] at he
    cases o with
    | row c k e op fz mk =>
      simp only [bcond] at he
      split at he
      · rename_i hc
        have hc := Nat.le_of_ble_eq_true hc
        obtain ⟨l, hl, he⟩ := bnd_eq he
        obtain ⟨ns, rfl, rfl, hlt, hge⟩ := bytes_map he
        obtain ⟨cc, lo, hi', h1, h2, h3, h4, h5, h6⟩ := (hs.obj b _ hb).2
        obtain ⟨xs, q1, q2, q3⟩ := cellsFrom_R h5 _ _ hl hc
        have := Rs_ints q1
        subst this
        refine ⟨ns, rfl, hlt, hge, by simpa using q2, fun j i hj => ?_⟩
        rw [cell_of_row w _ _ _ _ _ h1]
        exact q3 j _ (by simp [hj])
      · cases he
    | _ => cases he
theorem cvStr_s {e : TypeId} {x : AV} {nx : Nx} {h' : H} {v : Value} {src dst : TypeId} (he : cvStr P e x h = some (nx, h')) (hs : SR m ν h w) (hx : R h.next m ν x v)
    (h1 : P.underlying src = some (.slice e)) (h2 : P.underlying dst = some .string) : ∃ a, nx = .val a ∧ VS ν m h w a h' ((convert src dst v).run P w) := by
  obtain ⟨d, hd, he⟩ := bnd_eq he
  have hd' : d = .int .u8 := by
    cases d with
    | int k => cases k <;> first | rfl | cases he
    | _ => cases he
  subst hd'
  obtain ⟨s, hb, he⟩ := map_eq he
  cases he
  refine ⟨_, rfl, ?_⟩
  cases x with
  | nils =>
    simp only [R] at hx
    subst hx
    cases hb
    refine VS.pure hs (x := .string .empty) ?_ (by simp only [R]; exact ⟨rfl, by simp⟩)
    simp [convert, run_und h1, run_und h2, run_und hd, Conv.bytesToString]
  | slice b off len cap es op =>
    have hb0 := hb
    obtain ⟨ns, rfl, hlt, _, hlen, hcell⟩ := bytesOf_s hb hs
    simp only [R] at hx
    obtain ⟨hbn, o, c, rfl, hle, ho, _⟩ := hx
    have hld : (loadCells ⟨(m b).1, o, none⟩ len).run P w = .ok (ns.map (Value.int .u8)).toArray w := by
      have := run_loadCells_list (P := P) w ⟨(m b).1, o, none⟩ (ns.map (Value.int .u8)) (fun j v hj => by
        simp only [List.getElem?_map, Option.map_eq_some_iff] at hj
        obtain ⟨i, hi, rfl⟩ := hj
        have hjl : j < ns.length := by
          rcases Nat.lt_or_ge j ns.length with h' | h'
          · exact h'
          · rw [List.getElem?_eq_none h'] at hi; cases hi
        rw [add_at, ho (by omega)]
        exact hcell j i hi)
      rw [List.length_map, hlen] at this
      exact this
    have hrun := run_bytesToString (P := P) w ⟨(m b).1, o, none⟩ len c ns hld
    rw [fold_push] at hrun
    refine VS.pure hs (x := .string (ByteArray.empty ++ bs (ns.map Int.toNat))) ?_ ?_
    · simp [convert, run_und h1, run_und h2, run_und hd, hrun]
    · simp only [R]
      refine ⟨?_, hlt⟩
      congr 1
  | _ => cases hb
theorem freeze_push (w : World) (cs : Array Value) (e : TypeId) (n : Nat) :
    World.freeze { w with heap := w.heap.push (.cells cs e (0, 0)) } ⟨w.heap.size, n, none⟩ 1 = { w with heap := w.heap.push (.cells cs e (n, n + 1)) } := by
  simp only [World.freeze]
  rw [if_neg (by decide)]
  congr 1
  apply Array.ext
  · simp
  · intro i h1 h2
    simp only [Array.getElem_modify, Array.getElem_push]
    simp at h2
    by_cases hi : i = w.heap.size
    · subst hi; simp
    · have : i < w.heap.size := by omega
      rw [if_neg (fun e => hi e.symm)]
      simp [this]
theorem Rs_bytes {n : Nat} : ∀ s : List Nat, Rs n m ν (s.map fun (b : Nat) => AV.int .u8 (Int.ofNat b)) (s.map fun (b : Nat) => Value.int .u8 (Int.ofNat b))
  | [] => Rs.nil
  | _ :: s => Rs.cons (mkInt _ _) (Rs_bytes s)
theorem cvBytes_s {e : TypeId} {s : List Nat} {nx : Nx} {h' : H} {src dst : TypeId} {d1 : TypeDesc} (he : cvBytes P e s h = some (nx, h')) (hs : SR m ν h w) (hlt : ∀ x ∈ s, x < 256)
    (h1 : P.underlying src = some d1) (h2 : P.underlying dst = some (.slice e)) : ∃ a, nx = .val a ∧ VS ν m h w a h' ((convert src dst (.string (bs s))).run P w) := by
  obtain ⟨d, hd, he⟩ := bnd_eq he
  have hd' : d = .int .u8 := by
    cases d with
    | int k => cases k <;> first | rfl | cases he
    | _ => cases he
  subst hd'
  cases he
  refine ⟨_, rfl, ?_⟩
  let q := Question.appendCap (bs s).size 0 e
  let cap := q.cut (w.tape w.drawn q)
  have hcap : s.length ≤ cap := by
    show s.length ≤ (bs s).size + _
    rw [bs_size]; exact Nat.le_add_right _ _
  let cells : Array Value := ((bs s).data.map fun b => Value.int .u8 b.toNat) ++ Array.replicate (cap - (bs s).size) (.int .u8 0)
  have hcs : cells.size = cap := by
    have : (bs s).data.size = s.length := bs_size s
    simp only [cells, Array.size_append, Array.size_map, Array.size_replicate, bs_size, this]
    omega
  have hrs : Rs h.next m ν (s.map fun (b : Nat) => AV.int .u8 (Int.ofNat b)) (cells.toList.take (s.map fun (b : Nat) => AV.int .u8 (Int.ofNat b)).length) := by
    have e1 : cells.toList.take (s.map fun (b : Nat) => AV.int .u8 (Int.ofNat b)).length = s.map fun (b : Nat) => Value.int .u8 (Int.ofNat b) := by
      simp only [cells, Array.toList_append, List.length_map]
      rw [List.take_append_of_le_length (by simp [bs])]
      rw [List.take_of_length_le (by simp [bs])]
      simp only [bs, Array.toList_map, List.map_map]
      refine List.map_congr_left fun x hx => ?_
      simp [Nat.mod_eq_of_lt (hlt x hx)]
    rw [e1]
    exact Rs_bytes s
  have hp := newRow_s (w := { w with drawn := w.drawn + 1 }) (SR.heap (w := w) rfl hs) e (s.map fun (b : Nat) => AV.int .u8 (Int.ofNat b)) s.length true true cells cells.size (cells.size + 1) hrs (by omega) (fun h => by cases h) (.inr ⟨rfl, Nat.le_refl _⟩)
  have hp2 := Post.heapL (w := w) (w1 := { w with drawn := w.drawn + 1 }) rfl hp
  refine ⟨.slice (some ⟨w.heap.size, 0, none⟩) s.length cap, _, _, ?_, hp2, ?_⟩
  · have hconv : (convert src dst (.string (bs s))).run P w = (Conv.stringToBytes e (bs s)).run P w := by
      simp only [convert, Sem.run_bind, run_und h1, run_und h2, Result.andThen_ok]
      cases d1 <;> simp [run_und hd]
    rw [hconv]
    have hch : (Go.choose q).run P w = .ok cap { w with drawn := w.drawn + 1 } := by
      simp [Go.choose, Sem.run, q, Question.forced, cap]
    have hsh : World.shape? { w with drawn := w.drawn + 1, heap := w.heap.push (.cells cells e) } w.heap.size = some (e, cells.size) := by
      simp [World.shape?]
    simp only [Conv.stringToBytes, Sem.run_bind]
    rw [show (Go.choose (.appendCap (bs s).size 0 e)).run P w = _ from hch]
    simp only [Result.andThen_ok, run_newRow]
    have hmk : (markStringish ⟨w.heap.size, 0, none⟩).run P { w with drawn := w.drawn + 1, heap := w.heap.push (.cells cells e) } =
        .ok () { w with drawn := w.drawn + 1, heap := w.heap.push (.cells cells e (cells.size, cells.size + 1)) } := by
      simp only [markStringish, shape, Go.freeze, Sem.run_bind, Sem.run, hsh, Result.andThen_ok]
      congr 1
      exact freeze_push { w with drawn := w.drawn + 1 } cells e cells.size
    show Result.andThen ((markStringish ⟨w.heap.size, 0, none⟩).run P { w with drawn := w.drawn + 1, heap := w.heap.push (.cells cells e) }) _ = _
    rw [hmk]
    simp only [Result.andThen_ok, Sem.run_pure, bs_size]
  · simp only [R]
    refine ⟨Nat.lt_succ_self _, 0, cap, by simp, hcap, fun _ => by simp, ?_⟩
    simp only [if_true]
    refine ⟨hcap, ?_⟩
    simp [hcs]
end
section
variable {P : Program} {sm : Sum} {ν : Nat → Value} {m : Mu} {h : H} {w : World}
theorem run_stamp {w : World} {g off : Nat} {cc : Array Value} {e : TypeId} {lo hi : Nat} (h1 : w.heap[g]? = some (.cells cc e (lo, hi))) :
    (markStringish ⟨g, off, none⟩).run P w = .ok () (w.freeze ⟨g, cc.size, none⟩ 1) := by
  have hsh : w.shape? g = some (e, cc.size) := by simp [World.shape?, h1]
  simp only [markStringish, shape, Go.freeze, Sem.run_bind, Sem.run, hsh, Result.andThen_ok]
theorem freeze_row {w : World} {g off n : Nat} {cc : Array Value} {e : TypeId} {lo hi : Nat} (h1 : w.heap[g]? = some (.cells cc e (lo, hi))) (hn : n ≠ 0) :
    ∃ lo' hi', (w.freeze ⟨g, off, none⟩ n).heap[g]? = some (.cells cc e (lo', hi')) ∧ (lo = hi → lo' = off ∧ hi' = off + n) ∧ (lo ≠ hi → lo' = min lo off ∧ hi' = max hi (off + n)) ∧
      (∀ r, r ≠ g → (w.freeze ⟨g, off, none⟩ n).heap[r]? = w.heap[r]?) ∧ (w.freeze ⟨g, off, none⟩ n).heap.size = w.heap.size := by
  by_cases hl : lo = hi
  · refine ⟨off, off + n, ?_, fun _ => ⟨rfl, rfl⟩, fun h => absurd hl h, fun r hr => ?_, by simp [World.freeze, hn]⟩
    · simp only [World.freeze, if_neg hn, Array.getElem?_modify, if_true, h1, Option.map_some]
      simp [hl]
    · simp only [World.freeze, if_neg hn, Array.getElem?_modify]
      rw [if_neg (fun e => hr e.symm)]
  · refine ⟨min lo off, max hi (off + n), ?_, fun h => absurd h hl, fun _ => ⟨rfl, rfl⟩, fun r hr => ?_, by simp [World.freeze, hn]⟩
    · simp only [World.freeze, if_neg hn, Array.getElem?_modify, if_true, h1, Option.map_some]
      simp [hl]
    · simp only [World.freeze, if_neg hn, Array.getElem?_modify]
      rw [if_neg (fun e => hr e.symm)]
theorem cvMark_s {s d e : TypeId} {b off len cap es : Nat} {op : Bool} {nx : Nx} {h' : H} {v : Value} {e1 : TypeId} (he : cvMark P s d e b off len cap es op h = some (nx, h')) (hs : SR m ν h w) (hx : R h.next m ν (.slice b off len cap es op) v)
    (h1 : P.underlying s = some (.slice e1)) (h2 : P.underlying d = some (.slice e)) : ∃ a, nx = .val a ∧ VS ν m h w a h' ((convert s d v).run P w) := by
  obtain ⟨ed, hed, he⟩ := bnd_eq he
  have hx0 := hx
  simp only [R] at hx
  obtain ⟨hbn, o, c, rfl, hle, ho, hcap⟩ := hx
  split at he
  · rename_i c0 k el mk hrow
    rw [bcond] at he
    split at he
    · rename_i hsd
      cases he
      have hsd := of_beq hsd
      subst hsd
      have he1 : e1 = e := by rw [h1] at h2; cases h2; rfl
      subst he1
      obtain ⟨cc, lo, hi, q1, q2, q3, q4, q5, q6⟩ := (hs.obj b _ hrow).2
      obtain ⟨lo', hi', z1, y1, y2, z2, z3⟩ := freeze_row (off := cc.size) q1 (Nat.one_ne_zero)
      have hz := q4 rfl
      refine ⟨_, rfl, .slice (some ⟨(m b).1, o, none⟩) len c, m, w.freeze ⟨(m b).1, cc.size, none⟩ 1, ?_, ?_, hx0⟩
      · have hst := run_stamp (P := P) (off := o) q1
        simp [convert, run_und h1, run_und hed, hst]
      · refine Post.turn hs b _ _ hrow ?_ z3 z2 ?_
        · simp only [AO.wr, Bool.false_or, Bool.or_eq_true, decide_eq_true_eq]
          omega
        · refine ⟨cc, lo', hi', z1, q2, q3, q4, q5, .inr (.inr ⟨rfl, ?_⟩)⟩
          by_cases hl : lo = hi
          · rw [(y1 hl).1]; exact Nat.le_refl _
          · rw [(y2 hl).1]
            rcases q6 with q6 | q6 | q6
            · exact absurd q6 hl
            · omega
            · omega
    · cases he
  · cases he
end
section
variable {P : Program} {sm : Sum} {ν : Nat → Value} {m : Mu} {h : H} {w : World}
theorem convert_s {s d : TypeId} {x : AV} {nx : Nx} {h' : H} {v : Value} (he : opConvert P s d [x] h = some (nx, h')) (hs : SR m ν h w) (hx : R h.next m ν x v) :
    ∃ a, nx = .val a ∧ VS ν m h w a h' ((convert s d v).run P w) := by
  obtain ⟨sd, h1, he⟩ := bnd_eq he
  obtain ⟨dd, h2, he⟩ := bnd_eq he
  split at he
  · cases he
    cases R_int hx
    refine ⟨_, rfl, VS.pure hs ?_ (mkInt _ _)⟩
    simp only [convert, Sem.run_bind, run_und h1, run_und h2, Result.andThen_ok]
    rfl
  · cases he
    obtain ⟨rfl, hlt⟩ := R_str hx
    refine ⟨_, rfl, VS.pure hs ?_ hx⟩
    simp only [convert, Sem.run_bind, run_und h1, run_und h2, Result.andThen_ok]
    rfl
  · obtain ⟨rfl, hlt⟩ := R_str hx
    exact cvBytes_s he hs hlt h1 h2
  · exact cvStr_s he hs hx h1 h2
  · exact cvMark_s he hs hx h1 h2
  · cases he
theorem key_s {n : Nat} {kd : TypeDesc} {k a : AV} {v u : Value} {b : Bool} (hb : keyEq kd k a = some b) (hr : R n m ν k v) (q1 : R n m ν a u) : Instr.sameNow kd v u = some b := by
  unfold keyEq at hb
  split at hb
  · cases R_int hr
    cases R_int q1
    rw [bcond] at hb
    split at hb
    · rename_i hj
      cases hb
      have hj := dec_t hj
      subst hj
      simp [Instr.sameNow]
    · cases hb
  · obtain ⟨rfl, h1⟩ := R_str hr
    obtain ⟨rfl, h2⟩ := R_str q1
    cases hb
    rw [← str_eq h1 h2]
    simp [Instr.sameNow, beq_toListBytes]
  · cases R_bool hr
    cases R_bool q1
    cases hb
    simp [Instr.sameNow]
  · cases hb
theorem find_s {n : Nat} {kd : TypeDesc} {k : AV} {v : Value} (hr : R n m ν k v) : ∀ {es : List (AV × AV × Nat)} {ces : List MapEntry} {i : Nat} {r : Option (Nat × AV)}, findA kd k es i = some r → ER n m ν es ces →
    ∃ r', Instr.findNow kd v ces i = some r' ∧ (match r, r' with | none, none => True | some a, some b => a.1 = b.1 ∧ R n m ν a.2 b.2 ∧ i ≤ a.1 ∧ ∃ e, ces[a.1 - i]? = some e ∧ Instr.sameNow kd v e.key = some true | _, _ => False)
  | [], ces, i, r, he, hE => by cases he; simp only [ER] at hE; subst hE; exact ⟨none, rfl, trivial⟩
  | e :: es, ces, i, r, he, hE => by
    obtain ⟨x, xs, rfl, q1, q2, q3, q4⟩ := hE
    obtain ⟨b, hb, he⟩ := bnd_eq he
    have hsame : Instr.sameNow kd v x.key = some b := key_s hb hr q1
    rw [bcond] at he
    split at he
    · rename_i hbt
      cases he
      refine ⟨some (i, x.val), by simp [Instr.findNow, hsame, hbt], rfl, q2, Nat.le_refl _, x, by simp, by rw [hsame, hbt]⟩
    · rename_i hbf
      have hbf : b = false := by simpa using hbf
      obtain ⟨r', h1, h2⟩ := find_s hr he q4
      refine ⟨r', by simp [Instr.findNow, hsame, hbf, h1], ?_⟩
      cases r with
      | none => cases r' with
        | none => trivial
        | some b => exact h2
      | some a => cases r' with
        | none => exact h2
        | some b =>
          obtain ⟨g1, g2, g3, en, g4, g5⟩ := h2
          refine ⟨g1, g2, by omega, en, ?_, g5⟩
          rw [show a.1 - i = (a.1 - (i + 1)) + 1 from by omega]
          exact g4
theorem check_s {kt : TypeId} {kd : TypeDesc} (hd : P.underlying kt = some kd) (hk : keyKind kd = true) (e : Bool) (n : Nat) (k : Value) : (Instr.checkKey e (n + 1) kt k).run P w = .ok () w := by
  unfold Instr.checkKey
  simp only [Sem.run_bind, run_und hd, Result.andThen_ok]
  cases kd <;> first | rfl | cases hk
theorem run_getMap {r : Nat} {es : Array MapEntry} {cl : Nat} (hb : w.heap[r]? = some (.map es cl)) : (getObj r).run P w = .ok (.map es cl) w := by
  simp [getObj, Sem.run, hb]
theorem run_setMap {r : Nat} {es : Array MapEntry} {cl : Nat} (o : Obj) (hb : w.heap[r]? = some (.map es cl)) : (setObj r o).run P w = .ok () { w with heap := w.heap.setIfInBounds r o } := by
  simp [setObj, Sem.run, hb]
def PickV (P : Program) (et : TypeId) : Option (Nat × Value) → Value × Bool → Prop
  | some b, x => x = (b.2, true)
  | none, x => ∃ i, P.info? et = some i ∧ i.zero = some x.1 ∧ x.2 = false
theorem lookup_s {t : TypeId} {ok : Bool} {r : Option Nat} {k : AV} {nx : Nx} {h' : H} {u v : Value} (he : opLookup P t ok [.map r, k] h = some (nx, h')) (hs : SR m ν h w) (h1 : R h.next m ν (.map r) u) (h2 : R h.next m ν k v) :
    ∃ a, nx = .val a ∧ VS ν m h w a h' ((Instr.lookup t u v ok).run P w) := by
  obtain ⟨d, hd, he⟩ := bnd_eq he
  cases d with
  | map kt et =>
    obtain ⟨kd, hkd, he⟩ := bnd_eq he
    rw [bcond] at he
    split at he
    · cases he
    · rename_i hkk
      have hkk : keyKind kd = true := by simpa using hkk
      obtain ⟨es, hes, he⟩ := bnd_eq he
      obtain ⟨fr, hfr, he⟩ := bnd_eq he
      obtain ⟨p, hp, he⟩ := bnd_eq he
      cases he
      have hent : ∃ ces : Array MapEntry, ER h.next m ν es ces.toList ∧ ((u = .map none ∧ ces = #[]) ∨ ∃ g cl, u = .map (some g) ∧ w.heap[g]? = some (.map ces cl)) := by
        cases r with
        | none =>
          simp only [R] at h1
          subst h1
          cases hes
          exact ⟨#[], rfl, .inl ⟨rfl, rfl⟩⟩
        | some r =>
          simp only [R] at h1
          obtain ⟨hb, rfl⟩ := h1
          simp only at hes
          cases hg : h.t.get r with
          | none => rw [hg] at hes; cases hes
          | some o =>
            rw [hg] at hes
            cases o with
            | map es' cl =>
              cases hes
              obtain ⟨ces, q1, q2⟩ := (hs.obj r _ hg).2
              exact ⟨ces, q2, .inr ⟨_, cl, rfl, q1⟩⟩
            | _ => cases hes
      obtain ⟨ces, hE, hu⟩ := hent
      obtain ⟨r', g1, g2⟩ := find_s h2 hfr hE
      have hck := check_s (w := w) hkd hkk ces.isEmpty 9999 v
      have hfk := MapKept.run_findKey (w := w) hkd g1
      have hck' : (Instr.checkKey ces.isEmpty 10000 kt v).run P w = .ok () w := hck
      have key : ∀ x : Value × Bool, PickV P et r' x →
          (Instr.lookup t u v ok).run P w = .ok (if ok then .tuple #[x.1, .bool x.2] else x.1) w := by
        intro x hx
        rcases hu with ⟨rfl, rfl⟩ | ⟨g, cl, rfl, hb⟩
        · simp only [Instr.lookup, Sem.run_bind, run_und hd, Result.andThen_ok, Sem.run_pure, hck', hfk]
          cases r' with
          | some b => simp only [PickV] at hx; subst hx; rfl
          | none =>
            obtain ⟨i, hi, hz, hf⟩ := hx
            obtain ⟨x1, x2⟩ := x
            simp only at hz hf
            subst hf
            simp only [Sem.run_bind, run_zero hi hz, Result.andThen_ok, Sem.run_pure]
        · simp only [Instr.lookup, Sem.run_bind, run_und hd, Result.andThen_ok, Sem.run_pure, run_getMap hb, hck', hfk]
          cases r' with
          | some b => simp only [PickV] at hx; subst hx; rfl
          | none =>
            obtain ⟨i, hi, hz, hf⟩ := hx
            obtain ⟨x1, x2⟩ := x
            simp only at hz hf
            subst hf
            simp only [Sem.run_bind, run_zero hi hz, Result.andThen_ok, Sem.run_pure]
      have hval : ∃ x : Value × Bool, PickV P et r' x ∧ R h.next m ν p.1 x.1 ∧ x.2 = p.2 := by
        cases fr with
        | none =>
          cases r' with
          | some _ => exact g2.elim
          | none =>
            obtain ⟨z, hz, rfl⟩ := map_eq hp
            obtain ⟨i, zv, hi, hzv, ho⟩ := zeroOf_eq hz
            exact ⟨(zv, false), ⟨i, hi, hzv, rfl⟩, ofVal_R ho, rfl⟩
        | some a =>
          cases r' with
          | none => exact g2.elim
          | some b =>
            cases hp
            exact ⟨(b.2, true), rfl, g2.2.1, rfl⟩
      obtain ⟨x, hx, hxr, hxb⟩ := hval
      refine ⟨_, rfl, VS.pure hs (key x hx) ?_⟩
      cases ok with
      | true => simp only [cond_true, if_true, R]; exact ⟨_, rfl, Rs.cons hxr (Rs.one (by rw [hxb]; exact mkBool _))⟩
      | false => simpa using hxr
  | _ => cases he
theorem ER.set {n : Nat} {x : AV} {u : Value} (hx : R n m ν x u) : ∀ {es : List (AV × AV × Nat)} {ces : List MapEntry} (i : Nat) (k : MapEntry → Value), ER n m ν es ces → (∀ e, ces[i]? = some e → ∀ a, R n m ν a e.key → R n m ν a (k e)) →
    ER n m ν (setVal es i x) (ces.modify i fun e => { e with key := k e, val := u })
  | [], ces, i, k, hE, _ => by simp only [ER] at hE; subst hE; simp [setVal, ER]
  | e :: es, ces, 0, k, hE, hk => by
    obtain ⟨y, ys, rfl, q1, q2, q3, q4⟩ := hE
    exact ⟨_, _, rfl, hk y rfl _ q1, hx, q3, q4⟩
  | e :: es, ces, i + 1, k, hE, hk => by
    obtain ⟨y, ys, rfl, q1, q2, q3, q4⟩ := hE
    exact ⟨_, _, rfl, q1, q2, q3, ER.set hx i k q4 fun e he => hk e (by simpa using he)⟩
theorem ER.app {n : Nat} : ∀ {es fs : List (AV × AV × Nat)} {ces cfs : List MapEntry}, ER n m ν es ces → ER n m ν fs cfs → ER n m ν (es ++ fs) (ces ++ cfs)
  | [], fs, ces, cfs, h1, h2 => by simp only [ER] at h1; subst h1; exact h2
  | e :: es, fs, ces, cfs, h1, h2 => by
    obtain ⟨y, ys, rfl, q1, q2, q3, q4⟩ := h1
    exact ⟨_, _, rfl, q1, q2, q3, ER.app q4 h2⟩
theorem keyStays_s {kd : TypeDesc} {v : Value} (h : Instr.sameNow kd v v = some true) : (Instr.keyThatStays v v).run P w = .ok v w := by
  have hb : Instr.sameBits 10000 v v = true := by
    unfold Instr.sameNow at h
    split at h
    · simp [Instr.sameBits]
    · simp [Instr.sameBits, beq_toListBytes]
    · simp [Instr.sameBits]
    · cases h
  simp [Instr.keyThatStays, hb]
theorem sameBits_s {kd : TypeDesc} {a b : Value} (h : Instr.sameNow kd a b = some true) : a = b := by
  unfold Instr.sameNow at h
  split at h
  · split at h
    · rename_i hk; subst hk; simp at h; rw [h]
    · cases h
  · simp [beq_toListBytes] at h
    rename_i x y
    have : x = y := by
      apply ByteArray.ext
      have := h
      rw [ByteArray.toList_eq, ByteArray.toList_eq] at this
      exact Array.toList_inj.1 this
    rw [this]
  · simp at h; rw [h]
  · cases h
theorem mapUpdate_s {t : TypeId} {r : Nat} {k x : AV} {nx : Nx} {h' : H} {u v y : Value} (he : opMapUpdate P t [.map (some r), k, x] h = some (nx, h')) (hs : SR m ν h w) (h1 : R h.next m ν (.map (some r)) u)
    (h2 : R h.next m ν k v) (h3 : R h.next m ν x y) : nx = .skip ∧ ∃ w', (Instr.mapUpdate t u v y).run P w = .ok () w' ∧ Post ν m h w m h' w' := by
  obtain ⟨d, hd, he⟩ := bnd_eq he
  cases d with
  | map kt et =>
    obtain ⟨kd, hkd, he⟩ := bnd_eq he
    rw [bcond] at he
    split at he
    · cases he
    · rename_i hkk
      have hkk : keyKind kd = true := by simpa using hkk
      simp only [R] at h1
      obtain ⟨hb, rfl⟩ := h1
      cases hg : h.t.get r with
      | none => rw [hg] at he; cases he
      | some o =>
        rw [hg] at he
        cases o with
        | map es cl =>
          obtain ⟨fr, hfr, he⟩ := bnd_eq he
          obtain ⟨ces, q1, q2⟩ := (hs.obj r _ hg).2
          obtain ⟨r', g1, g2⟩ := find_s h2 hfr q2
          have hck : (Instr.checkKey false 10000 kt v).run P w = .ok () w := check_s hkd hkk false 9999 v
          have hfk := MapKept.run_findKey (w := w) hkd g1
          have hlt : (m r).1 < w.heap.size := (hs.obj r _ hg).2.lt
          cases fr with
          | none =>
            cases r' with
            | some _ => exact g2.elim
            | none =>
              cases he
              refine ⟨rfl, _, by simp only [Instr.mapUpdate, Sem.run_bind, run_und hd, Result.andThen_ok, run_getMap q1, hck, hfk]; exact run_setMap _ q1, ?_⟩
              refine Post.turn hs r _ _ hg rfl (by simp) (fun g hne => by simp [Ne.symm hne]) ?_
              refine ⟨ces.push { key := v, val := y, born := cl }, by simp [hlt], ?_⟩
              rw [Array.toList_push]
              exact ER.app q2 ⟨_, _, rfl, h2, h3, rfl, rfl⟩
          | some a =>
            cases r' with
            | none => exact g2.elim
            | some b =>
              obtain ⟨i, av⟩ := a
              cases he
              obtain ⟨g3, g4, _, e0, g5, g6⟩ := g2
              simp only [Nat.sub_zero] at g5
              have hkey : v = e0.key := sameBits_s g6
              have hks : (Instr.keyThatStays v v).run P w = .ok v w := keyStays_s (kd := kd) (by rw [← hkey] at g6; exact g6)
              obtain ⟨j, bv⟩ := b
              simp only at g3
              subst g3
              have hget : ((ces[i]?).map (·.key)).getD v = v := by
                have : ces[i]? = some e0 := by simpa using g5
                rw [this, hkey]; rfl
              refine ⟨rfl, { w with heap := w.heap.setIfInBounds (m r).1 (.map (ces.modify i fun e => { e with key := v, val := y }) cl) }, ?_, ?_⟩
              · simp only [Instr.mapUpdate, Sem.run_bind, run_und hd, Result.andThen_ok, run_getMap q1, hck, hfk, hget, hks]
                exact run_setMap _ q1
              · refine Post.turn hs r _ _ hg rfl (by simp) (fun g hne => by simp [Ne.symm hne]) ?_
                refine ⟨ces.modify i fun e => { e with key := v, val := y }, by simp [hlt], ?_⟩
                rw [Array.toList_modify]
                refine ER.set h3 i (fun _ => v) q2 (fun e he a hr => ?_)
                have : e = e0 := by rw [he] at g5; exact Option.some.inj g5
                rw [this, ← hkey] at hr
                exact hr
        | _ => cases he
  | _ => cases he
end
section
variable {P : Program} {sm : Sum} {ν : Nat → Value} {m : Mu} {h : H} {w : World}
theorem range_s {t : TypeId} {s : List Nat} {nx : Nx} {h' : H} {v : Value} (he : opRange P t [.str s] h = some (nx, h')) (hs : SR m ν h w) (hx : R h.next m ν (.str s) v) :
    ∃ a, nx = .val a ∧ VS ν m h w a h' ((Instr.range t v).run P w) := by
  obtain ⟨rfl, hlt⟩ := R_str hx
  obtain ⟨d, hd, he⟩ := bnd_eq he
  cases d with
  | string =>
    cases he
    refine ⟨_, rfl, .pointer (some ⟨w.heap.size, 0, none⟩), _, _, ?_, Post.new hs (.siter s 0) (.stringIter (bs s) 0) 0 0 (fun m' w' _ hm hw => ?_), ?_⟩
    · simp [Instr.range, run_und hd, newObj, Sem.run]
    · refine ⟨?_, hlt, by rw [hm]⟩
      rw [hw, hm]; simp
    · simp only [R]; exact ⟨Nat.lt_succ_self _, by simp⟩
  | _ => cases he
theorem next_s {b : Nat} {ty : TypeId} {nx : Nx} {h' : H} {v : Value} (he : opNext [.ptr b 0] h = some (nx, h')) (hs : SR m ν h w) (hx : R h.next m ν (.ptr b 0) v) :
    ∃ a, nx = .val a ∧ VS ν m h w a h' ((Instr.next v true ty).run P w) := by
  obtain ⟨hb, rfl⟩ := R_ptr hx
  simp only [opNext] at he
  cases hg : h.t.get b with
  | none => rw [hg] at he; cases he
  | some o =>
    rw [hg] at he
    cases o with
    | siter s pos =>
      obtain ⟨q1, q2, q3⟩ := (hs.obj b _ hg).2
      have hlt : (m b).1 < w.heap.size := (hs.obj b _ hg).2.lt
      have hget : (getObj (m b).1).run P w = .ok (.stringIter (bs s) pos) w := by simp [getObj, Sem.run, q1]
      simp only at he
      cases hp : s[pos]? with
      | none =>
        rw [hp] at he
        cases he
        have hle : s.length ≤ pos := by
          rcases Nat.lt_or_ge pos s.length with h' | h'
          · rw [List.getElem?_eq_getElem h'] at hp; cases hp
          · exact h'
        refine ⟨_, rfl, VS.pure hs (x := .tuple #[.bool false]) ?_ (by simp only [R]; exact ⟨_, rfl, Rs.one (mkBool _)⟩)⟩
        have hn : ¬ pos < (bs s).size := by rw [bs_size]; omega
        simp [Instr.next, q3, hget, hn]
      | some c =>
        rw [hp] at he
        simp only [bcond] at he
        split at he
        · rename_i hc
          cases he
          have hc : c < 128 := by simpa [Nat.blt_eq] using hc
          have hpl : pos < s.length := by
            rcases Nat.lt_or_ge pos s.length with h' | h'
            · exact h'
            · rw [List.getElem?_eq_none h'] at hp; cases hp
          have hn : pos < (bs s).size := by rw [bs_size]; exact hpl
          have hdec : Utf8.decode (bs s) pos = (c, 1) := by
            obtain ⟨x, hx1, hx2⟩ := bs_get s pos c hp (by omega)
            have hgx : ((bs s).get! (pos + 0)).toNat = c := by
              rw [Nat.add_zero]
              have : (bs s).get! pos = x := by
                rw [getElem?_pos (bs s) pos hn] at hx1
                have e : (bs s)[pos] = x := Option.some.inj hx1
                rw [← e]
                show (bs s).data[pos]! = (bs s).data[pos]
                exact getElem!_pos (bs s).data pos hn
              rw [this, hx2]
            simp only [Utf8.decode, hgx]
            rw [if_pos (by omega)]
          refine ⟨_, rfl, .tuple #[.bool true, goInt pos, .int .i32 c], m, { w with heap := w.heap.setIfInBounds (m b).1 (.stringIter (bs s) (pos + 1)) }, ?_, ?_, ?_⟩
          · have hset : (setObj (m b).1 (.stringIter (bs s) (pos + 1))).run P w = .ok () { w with heap := w.heap.setIfInBounds (m b).1 (.stringIter (bs s) (pos + 1)) } := by simp [setObj, Sem.run, q1]
            simp [Instr.next, q3, hget, hn, hdec, hset]
          · refine Post.turn hs b _ _ hg rfl (by simp) (fun g hne => by simp [Ne.symm hne]) ?_
            exact ⟨by simp [hlt], q2, q3⟩
          · simp only [R]
            exact ⟨_, rfl, Rs.cons (mkBool _) (Rs.cons (mkInt _ _) (Rs.one (mkInt _ _)))⟩
        · cases he
    | _ => cases he
theorem missing_s {want : Array (String × TypeId)} {got : Array Method} : (want.toList.all fun w => got.any fun m => m.name == w.1 && m.sig == w.2) = true → Instr.missingMethod want got = none := by
  intro h
  have hf : (want.toList.filter fun (name, sig) => !got.any fun m => m.name == name && m.sig == sig) = [] := by
    rw [List.filter_eq_nil_iff]
    intro a ha
    have := List.all_eq_true.1 h a ha
    simp only [this, Bool.not_true, Bool.false_eq_true, not_false_eq_true]
  unfold Instr.missingMethod
  rw [hf]
  rfl
theorem least_some : ∀ L : List String, L ≠ [] → ∃ s, Instr.least L = some s := fun L hL => by
  cases L with
  | nil => exact absurd rfl hL
  | cons x xs => exact ⟨_, rfl⟩
theorem parted (p : String → Bool) (f : String → String) (L : List String) (hL : L ≠ []) : ∃ s, (match L.partition p with | (u, e) => (Instr.least e <|> Instr.least (u.map f))) = some s := by
  rw [List.partition_eq_filter_filter]
  cases L with
  | nil => exact absurd rfl hL
  | cons a l =>
    by_cases hp : p a = true
    · have h1 : (a :: l).filter p ≠ [] := by rw [List.filter_cons_of_pos hp]; simp
      obtain ⟨s1, hs1⟩ := least_some (((a :: l).filter p).map f) (by simpa using h1)
      simp only [hs1]
      cases Instr.least ((a :: l).filter (not ∘ p)) with
      | none => exact ⟨_, rfl⟩
      | some s2 => exact ⟨_, rfl⟩
    · have h1 : (a :: l).filter (not ∘ p) ≠ [] := by rw [List.filter_cons_of_pos (by simpa using hp)]; simp
      obtain ⟨s1, hs1⟩ := least_some _ h1
      simp only [hs1]
      exact ⟨_, rfl⟩
theorem missing_n {want : Array (String × TypeId)} {got : Array Method} : ¬ (want.toList.all fun w => got.any fun m => m.name == w.1 && m.sig == w.2) = true → ∃ s, Instr.missingMethod want got = some s := by
  intro h
  have hne : (want.toList.filter fun (name, sig) => !got.any fun m => m.name == name && m.sig == sig) ≠ [] := by
    intro hf
    rw [List.filter_eq_nil_iff] at hf
    apply h
    rw [List.all_eq_true]
    intro a ha
    have := hf a ha
    simpa using this
  exact parted _ _ ((want.toList.filter fun (name, sig) => !got.any fun m => m.name == name && m.sig == sig).map (·.1)) (by simpa using hne)
theorem assert_s {x : AV} {xt at_ : TypeId} {ok : Bool} {nx : Nx} {h' : H} {v : Value} (he : opAssert P xt at_ ok [x] h = some (nx, h')) (hs : SR m ν h w) (hx : R h.next m ν x v) :
    ∃ a, nx = .val a ∧ VS ν m h w a h' ((Instr.typeAssert v xt at_ ok).run P w) := by
  obtain ⟨a, ha, he⟩ := map_eq he
  cases he
  refine ⟨_, rfl, ?_⟩
  obtain ⟨d, hd, ha⟩ := bnd_eq ha
  have zr : ∀ {a : AV}, (bif ok then (zeroOf P at_).map fun z => AV.tup [z, .bool false] else none) = some a → ok = true ∧ ∃ i zv z, P.info? at_ = some i ∧ i.zero = some zv ∧ R h.next m ν z zv ∧ a = .tup [z, .bool false] := by
    intro a h
    cases ok with
    | false => cases h
    | true =>
      obtain ⟨z, hz, rfl⟩ := map_eq h
      obtain ⟨i, zv, hi, hzv, ho⟩ := zeroOf_eq hz
      exact ⟨rfl, i, zv, z, hi, hzv, ofVal_R ho, rfl⟩
  have hd_ : ∀ {u : AV} {y : Value}, R h.next m ν u y → R h.next m ν (bif ok then .tup [u, .bool true] else u) (if ok then .tuple #[y, .bool true] else y) := by
    intro u y hr
    cases ok with
    | true => simp only [cond_true, if_true, R]; exact ⟨_, rfl, Rs.cons hr (Rs.one (mkBool _))⟩
    | false => simpa using hr
  have hz_ : ∀ {z : AV} {zv : Value}, R h.next m ν z zv → R h.next m ν (.tup [z, .bool false]) (.tuple #[zv, .bool false]) := fun hr => by
    simp only [R]; exact ⟨_, rfl, Rs.cons hr (Rs.one (mkBool _))⟩
  simp only at ha
  split at ha
  · -- to an interface, of nil
    simp only [R] at hx
    subst hx
    obtain ⟨rfl, i, zv, z, hi, hzv, hr, rfl⟩ := zr ha
    refine VS.pure hs ?_ (hz_ hr)
    simp [Instr.typeAssert, run_und hd, run_zero hi hzv]
  · -- to an interface
    rename_i want t x _
    simp only [R] at hx
    obtain ⟨y, rfl, hx⟩ := hx
    obtain ⟨ti, hti, ha⟩ := bnd_eq ha
    rw [bcond] at ha
    split at ha
    · rename_i hall
      cases ha
      refine VS.pure hs ?_ (hd_ (u := .iface t x) (y := .iface t y) (by simp only [R]; exact ⟨y, rfl, hx⟩))
      simp [Instr.typeAssert, run_und hd, run_info hti, missing_s hall]
    · rename_i hall
      obtain ⟨rfl, i, zv, z, hi, hzv, hr, rfl⟩ := zr ha
      obtain ⟨s, hms⟩ := missing_n hall
      refine VS.pure hs ?_ (hz_ hr)
      simp [Instr.typeAssert, run_und hd, run_info hti, hms, run_zero hi hzv]
  · -- of nil
    rename_i hni
    simp only [R] at hx
    subst hx
    obtain ⟨rfl, i, zv, z, hi, hzv, hr, rfl⟩ := zr ha
    refine VS.pure hs ?_ (hz_ hr)
    cases d <;> first
      | (simp [Instr.typeAssert, run_und hd, run_zero hi hzv]; done)
      | exact absurd rfl (hni _)
  · rename_i t x hni _
    simp only [R] at hx
    obtain ⟨y, rfl, hx⟩ := hx
    rw [bcond] at ha
    split at ha
    · rename_i ht
      cases ha
      have ht := of_beq ht
      subst ht
      refine VS.pure hs ?_ (hd_ hx)
      cases d <;> first
        | (simp [Instr.typeAssert, run_und hd]; done)
        | exact absurd rfl (hni _)
    · rename_i ht
      have ht' : ¬ t = at_ := fun e => ht (beq_t e)
      obtain ⟨rfl, i, zv, z, hi, hzv, hr, rfl⟩ := zr ha
      refine VS.pure hs ?_ (hz_ hr)
      cases d <;> first
        | (simp [Instr.typeAssert, run_und hd, run_zero hi hzv, ht']; done)
        | exact absurd rfl (hni _)
  · cases ha
end
section
variable {P : Program} {sm : Sum} {ν : Nat → Value} {m : Mu} {h : H} {w : World}
theorem ER.len {n : Nat} : ∀ {es : List (AV × AV × Nat)} {ces : List MapEntry}, ER n m ν es ces → ces.length = es.length
  | [], ces, h => by simp only [ER] at h; subst h; rfl
  | e :: es, ces, h => by obtain ⟨y, ys, rfl, _, _, _, q⟩ := h; simp [ER.len q]
theorem len_s {a : TypeId} {x : AV} {nx : Nx} {h' : H} {v : Value} {ats : Array TypeId} {ty : TypeId} (he : bLen P a [x] h = some (nx, h')) (hs : SR m ν h w) (hx : R h.next m ν x v) (ha : ats[0]? = some a) :
    ∃ r, nx = .val r ∧ VS ν m h w r h' ((Builtin.len_ ats ty #[v]).run P w) := by
  obtain ⟨d, hd, he⟩ := bnd_eq he
  split at he
  · cases he; simp only [R] at hx; subst hx
    exact ⟨_, rfl, VS.pure hs (by simp [Builtin.len_, ha, run_und hd, goInt]) (mkInt _ _)⟩
  · rename_i r _
    simp only [R] at hx
    obtain ⟨hb, rfl⟩ := hx
    cases hg : h.t.get r with
    | none => rw [hg] at he; cases he
    | some o =>
      rw [hg] at he
      cases o with
      | map es cl =>
        cases he
        obtain ⟨ces, q1, q2⟩ := (hs.obj r _ hg).2
        have hl := q2.len
        refine ⟨_, rfl, VS.pure hs (x := goInt ces.size) (by simp [Builtin.len_, ha, run_und hd, run_getMap q1]) ?_⟩
        have : (ces.size : Int) = Int.ofNat es.length := by
          rw [← hl]; simp
        simp only [goInt, this]
        exact mkInt _ _
      | _ => cases he
  · rename_i s _
    cases he
    obtain ⟨rfl, _⟩ := R_str hx
    exact ⟨_, rfl, VS.pure hs (x := goInt (bs s).size) (by simp [Builtin.len_, ha, run_und hd]) (by rw [bs_size]; exact mkInt _ _)⟩
  · cases he
    simp only [R] at hx
    obtain ⟨_, o, c, rfl, _⟩ := hx
    exact ⟨_, rfl, VS.pure hs (by simp [Builtin.len_, ha, run_und hd, goInt]) (mkInt _ _)⟩
  · cases he
    simp only [R] at hx
    subst hx
    exact ⟨_, rfl, VS.pure hs (by simp [Builtin.len_, ha, run_und hd, goInt]) (mkInt _ _)⟩
  · cases he
    refine ⟨_, rfl, VS.pure hs ?_ (mkInt _ _)⟩
    simp [Builtin.len_, ha, run_und hd, goInt]
  · cases he
theorem cap_s {a : TypeId} {x : AV} {nx : Nx} {h' : H} {v : Value} {ats : Array TypeId} {ty : TypeId} (he : bCap P a [x] h = some (nx, h')) (hs : SR m ν h w) (hx : R h.next m ν x v) (ha : ats[0]? = some a) :
    ∃ r, nx = .val r ∧ VS ν m h w r h' ((Builtin.cap_ ats ty #[v]).run P w) := by
  obtain ⟨d, hd, he⟩ := bnd_eq he
  split at he
  · cases he
    simp only [R] at hx
    obtain ⟨_, o, c, rfl, _, _, hc⟩ := hx
    simp only [Bool.false_eq_true, if_false] at hc
    subst hc
    exact ⟨_, rfl, VS.pure hs (by simp [Builtin.cap_, ha, run_und hd, goInt]) (mkInt _ _)⟩
  · cases he
    simp only [R] at hx
    subst hx
    exact ⟨_, rfl, VS.pure hs (by simp [Builtin.cap_, ha, run_und hd, goInt]) (mkInt _ _)⟩
  · cases he
theorem max_s {n : Nat} {k : IntKind} : ∀ {l : List AV} {vs : List Value} {x y : Int}, maxL x l = some y → Rs n m ν l vs → (vs.foldlM Builtin.max2 (.int k x) : Sem Value).run P w = .ok (.int k y) w
  | [], vs, x, y, he, hr => by rw [Rs_nil] at hr; subst hr; cases he; simp
  | a :: l, vs, x, y, he, hr => by
    obtain ⟨v, us, rfl, h1, h2⟩ := Rs_cons.1 hr
    cases a with
    | int j z =>
      cases R_int h1
      simp only [maxL, bcond] at he
      have := max_s (k := k) he h2
      simp only [List.foldlM_cons, Builtin.max2, Sem.run_bind, Sem.run_pure, Result.andThen_ok]
      by_cases hz : z > x
      · simp only [hz, decide_true, if_true] at this ⊢; exact this
      · simp only [hz, decide_false, Bool.false_eq_true, if_false] at this ⊢; exact this
    | _ => cases he
theorem min_s {n : Nat} {k : IntKind} : ∀ {l : List AV} {vs : List Value} {x y : Int}, minL x l = some y → Rs n m ν l vs → (vs.foldlM Builtin.min2 (.int k x) : Sem Value).run P w = .ok (.int k y) w
  | [], vs, x, y, he, hr => by rw [Rs_nil] at hr; subst hr; cases he; simp
  | a :: l, vs, x, y, he, hr => by
    obtain ⟨v, us, rfl, h1, h2⟩ := Rs_cons.1 hr
    cases a with
    | int j z =>
      cases R_int h1
      simp only [minL, bcond] at he
      have := min_s (k := k) he h2
      simp only [List.foldlM_cons, Builtin.min2, Sem.run_bind, Sem.run_pure, Result.andThen_ok]
      by_cases hz : z < x
      · simp only [hz, decide_true, if_true] at this ⊢; exact this
      · simp only [hz, decide_false, Bool.false_eq_true, if_false] at this ⊢; exact this
    | _ => cases he
theorem lenOf_s {x : AV} {n : Nat} {v : Value} (he : lenA x = some n) (hx : R h.next m ν x v) : (Builtin.lenOf v).run P w = .ok n w := by
  cases x with
  | slice b off len cap es op => cases he; simp only [R] at hx; obtain ⟨_, o, c, rfl, _⟩ := hx; rfl
  | nils => cases he; simp only [R] at hx; subst hx; rfl
  | str s => cases he; obtain ⟨rfl, _⟩ := R_str hx; simp [Builtin.lenOf, bs_size]
  | _ => cases he
theorem first_s {size n : Nat} {x : AV} {cs : List AV} {v : Value} (he : firstA h size n x = some cs) (hs : SR m ν h w) (hx : R h.next m ν x v) (hn : ∀ len, lenA x = some len → n ≤ len) :
    ∃ arr, (∀ w' : World, w'.heap = w.heap → (Builtin.firstCells size n v).run P w' = .ok arr w') ∧ Rs h.next m ν cs arr.toList := by
  cases x with
  | slice b off len cap es op =>
    simp only [firstA] at he
    cases hb : h.t.get b with
    | none => rw [hb] at he; cases he
    | some o =>
      rw [hb] at he
      cases o with
      | row c k e op' fz mk =>
        simp only [bcond] at he
        split at he
        · rename_i hle
          have hle := Nat.le_of_ble_eq_true hle
          obtain ⟨cc, lo, hi', h1, h2, h3, h4, h5, h6⟩ := (hs.obj b _ hb).2
          obtain ⟨xs, q1, q2, q3⟩ := cellsFrom_R h5 _ _ he hle
          simp only [R] at hx
          obtain ⟨hbn, o, cp, rfl, hlc, ho, _⟩ := hx
          have hnl := hn len rfl
          refine ⟨xs.toArray, fun w' e => ?_, by simpa using q1⟩
          have := run_loadCells_list (P := P) w' ⟨(m b).1, o, none⟩ xs (fun j v hj => by
            have hjl : j < xs.length := by
              rcases Nat.lt_or_ge j xs.length with h' | h'
              · exact h'
              · rw [List.getElem?_eq_none h'] at hj; cases hj
            have hn0 : n ≠ 0 := by
              rintro rfl
              rw [q2] at hjl; simp at hjl
            rw [add_at, ho (by omega), cell_of_row w' _ _ _ _ _ (by rw [e]; exact h1)]
            exact q3 j v hj)
          rw [q2] at this
          simpa [Builtin.firstCells] using this
        · cases he
      | _ => cases he
  | nils =>
    simp only [firstA, bcond] at he
    split at he
    · cases he
      simp only [R] at hx
      subst hx
      exact ⟨#[], fun _ _ => rfl, Rs.nil⟩
    · cases he
  | str s =>
    simp only [firstA, bcond] at he
    split at he
    case isFalse => cases he
    cases he
    obtain ⟨rfl, hlt⟩ := R_str hx
    refine ⟨_, fun _ _ => rfl, ?_⟩
    have e : ((((bs s).extract 0 n).data.map fun b => Value.int .u8 b.toNat)).toList = (s.take n).map fun (b : Nat) => Value.int .u8 (Int.ofNat b) := by
      rw [bs_extract]
      simp only [List.drop_zero, Nat.sub_zero, bs, Array.toList_map, List.map_map]
      refine List.map_congr_left fun x hx => ?_
      simp [Nat.mod_eq_of_lt (hlt x (List.mem_of_mem_take hx))]
    rw [e]
    exact Rs_bytes _
  | _ => cases he
end
section
variable {P : Program} {sm : Sum} {ν : Nat → Value} {m : Mu} {h : H} {w : World}
theorem write_s (hν : ∀ k, (ν k).oneCell' = true) {b off k : Nat} {c : T AV} {e : TypeId} {op mk : Bool} {fz : Nat} {cs : List AV} {vs : List Value} (hb : h.t.get b = some (.row c k e op fz mk)) (hs : SR m ν h w)
    (hcs : Rs h.next m ν cs vs) (hall : cs.all AV.one = true) (hpos : 0 < cs.length) (hfz : fz ≤ off) (hle : off + cs.length ≤ k) :
    ∃ w', (storeCells ⟨(m b).1, (m b).2.1 + off, none⟩ vs).run P w = .ok () w' ∧ Post ν m h w m (h.put b (.row (putCells c off cs) k e op fz mk)) w' := by
  obtain ⟨cc, lo, hi', h1, h2, h3, h4, h5, h6⟩ := (hs.obj b _ hb).2
  have hlen := hcs.len
  have hrun := run_cells P (m b).1 ((m b).2.1 + off) e lo hi' vs 0 cc w h1 (fun j j1 j2 => by
    simp at j1 j2
    rcases h6 with h6 | h6 | h6 <;> omega) (by omega) (Rs_one hν hcs hall)
  refine ⟨_, hrun, ?_⟩
  refine Post.turn hs b _ _ hb (by simp only [AO.wr, Bool.or_eq_true, decide_eq_true_eq]; omega) (setRow_size _ _ _) (fun r hr' => setRow_other _ _ _ _ hr') ?_
  refine ⟨_, lo, hi', setRow_heap w _ _ _ _ _ h1, ?_, ?_, ?_, ?_, ?_⟩
  · simp; omega
  · simp; omega
  · intro ho; have := h4 ho; refine ⟨this.1, ?_⟩; simp; omega
  · exact putCells_R h5 hcs (by omega)
  · rcases h6 with h6 | h6 | ⟨h6, h7⟩
    · exact .inl h6
    · exact .inr (.inl h6)
    · refine .inr (.inr ⟨h6, ?_⟩); simp; omega
theorem firstA_len {size n : Nat} {x : AV} {cs : List AV} (he : firstA h size n x = some cs) (hn : ∀ len, lenA x = some len → n ≤ len) : cs.length = n * size := by
  cases x with
  | slice b off len cap es op =>
    simp only [firstA] at he
    cases hb : h.t.get b with
    | none => rw [hb] at he; cases he
    | some o =>
      rw [hb] at he
      cases o with
      | row c k e op' fz mk =>
        simp only [bcond] at he
        split at he
        · exact cellsFrom_len _ _ he
        · cases he
      | _ => cases he
  | nils =>
    simp only [firstA, bcond] at he
    split at he
    · rename_i hz
      cases he
      rw [of_beq hz]; simp
    · cases he
  | str s =>
    simp only [firstA, bcond] at he
    split at he
    · rename_i hz
      cases he
      have := hn s.length rfl
      rw [of_beq hz]
      simp; omega
    · cases he
  | _ => cases he
theorem arr0 (a b : Value) : (#[a, b] : Array Value)[0]? = some a := rfl
theorem arr1 (a b : Value) : (#[a, b] : Array Value)[1]? = some b := rfl
theorem copy_s (hν : ∀ k, (ν k).oneCell' = true) {a : TypeId} {d s : AV} {nx : Nx} {h' : H} {dv sv : Value} {ats : Array TypeId} {ty : TypeId} (he : bCopy P a [d, s] h = some (nx, h')) (hs : SR m ν h w) (hd : R h.next m ν d dv) (hsv : R h.next m ν s sv)
    (ha : ats[0]? = some a) : ∃ r, nx = .val r ∧ VS ν m h w r h' ((Builtin.copy_ ats ty #[dv, sv]).run P w) := by
  obtain ⟨dd, hdd, he⟩ := bnd_eq he
  cases dd with
  | slice el =>
    obtain ⟨size, hsz, he⟩ := bnd_eq he
    obtain ⟨ei, hei, rfl⟩ := szOf_eq hsz
    obtain ⟨ls, hls, he⟩ := bnd_eq he
    obtain ⟨ld, hld, he⟩ := bnd_eq he
    obtain ⟨cs, hcs, he⟩ := bnd_eq he
    obtain ⟨arr, q1', q2⟩ := first_s (P := P) hcs hs hsv (fun len hl => by rw [hls] at hl; cases hl; exact Nat.min_le_left _ _)
    have q1 := q1' w rfl
    have hl := lenOf_s (P := P) (w := w) hls hsv
    cases d with
    | slice b off len cap es op =>
      cases hld
      have hd0 := hd
      simp only [R] at hd
      obtain ⟨hbn, o, c, rfl, hlc, ho, _⟩ := hd
      simp only [bcond] at he
      split at he
      · rename_i hn
        have hn := of_beq hn
        cases he
        rw [hn] at q1 hcs
        have harr : arr.toList = [] := by
          have : cs = [] := by
            cases s with
            | slice b' off' len' cap' es' op' =>
              simp only [firstA, Nat.zero_mul] at hcs
              cases hg : h.t.get b' with
              | none => rw [hg] at hcs; cases hcs
              | some ob =>
                rw [hg] at hcs
                cases ob with
                | row => simp only [bcond] at hcs; split at hcs <;> cases hcs; rfl
                | _ => cases hcs
            | nils => cases hcs; rfl
            | str s' => simp only [firstA, bcond] at hcs; split at hcs <;> cases hcs; simp
            | _ => cases hcs
          subst this
          rw [Rs_nil] at q2; exact q2
        refine ⟨_, rfl, VS.pure hs (x := goInt 0) ?_ (mkInt _ _)⟩
        simp only [Builtin.copy_, ha, arr0, arr1, run_und hdd, Sem.run_bind, Result.andThen_ok, hl, run_size hei, hn, q1, harr, storeCells, Sem.run_pure]
        rfl
      · rename_i hn
        cases hg : h.t.get b with
        | none => rw [hg] at he; cases he
        | some ob =>
          rw [hg] at he
          cases ob with
          | row c0 k e op' fz mk =>
            simp only [bcond] at he
            split at he
            · rename_i hc
              cases he
              simp only [Bool.and_eq_true] at hc
              obtain ⟨⟨⟨⟨c1, c2⟩, c3⟩, c4⟩, c5⟩ := hc
              have c1 := of_beq c1
              have c2 : 0 < Nat.min ls ld * es := by simpa [Nat.blt_eq] using c2
              have c3 := Nat.le_of_ble_eq_true c3
              have c4 := Nat.le_of_ble_eq_true c4
              have hcl : cs.length = Nat.min ls ld * ei.size := firstA_len hcs (fun l' hl' => by rw [hls] at hl'; cases hl'; exact Nat.min_le_left _ _)
              rw [← c1] at hcl
              obtain ⟨w', g1, g2⟩ := write_s (P := P) hν hg hs q2 c5 (by rw [hcl]; exact c2) c3 (by rw [hcl]; exact c4)
              have hmin : Nat.min ls ld ≤ ld := Nat.min_le_right _ _
              have hpos : 0 < Nat.min ls ld := by
                rcases Nat.eq_zero_or_pos (Nat.min ls ld) with h0 | h0
                · rw [h0] at c2; simp at c2
                · exact h0
              have ho' := ho (by omega)
              subst ho'
              refine ⟨_, rfl, goInt (Nat.min ls ld), m, w', ?_, g2, mkInt _ _⟩
              simp only [Builtin.copy_, ha, arr0, arr1, run_und hdd, Sem.run_bind, Result.andThen_ok, hl, run_size hei, q1, g1, Sem.run_pure]
            · cases he
          | _ => cases he
    | nils =>
      cases hld
      cases he
      simp only [R] at hd
      subst hd
      refine ⟨_, rfl, VS.pure hs (x := goInt (Nat.min ls 0)) ?_ (mkInt _ _)⟩
      simp only [Builtin.copy_, ha, arr0, arr1, run_und hdd, Sem.run_bind, Result.andThen_ok, hl, run_size hei, q1, Sem.run_pure]
    | _ => cases he
  | _ => cases he
end
section
variable {P : Program} {sm : Sum} {ν : Nat → Value} {m : Mu} {h : H} {w : World}
theorem growBy_le (nl : Nat) : ∀ (r c : Nat), Builtin.growBy nl r c ≤ (c + 768) * 2 ^ r
  | 0, c => by simp [Builtin.growBy]
  | r + 1, c => by
    simp only [Builtin.growBy]
    split
    · have : 0 < 2 ^ (r + 1) := Nat.two_pow_pos _
      calc c ≤ c + 768 := by omega
        _ = (c + 768) * 1 := by omega
        _ ≤ (c + 768) * 2 ^ (r + 1) := Nat.mul_le_mul_left _ this
    · have ih := growBy_le nl r (c + (c + 768) / 4)
      calc _ ≤ (c + (c + 768) / 4 + 768) * 2 ^ r := ih
        _ ≤ ((c + 768) * 2) * 2 ^ r := Nat.mul_le_mul_right _ (by omega)
        _ = (c + 768) * 2 ^ (r + 1) := by rw [Nat.pow_succ, Nat.mul_assoc, Nat.mul_comm 2]
theorem ite_le {p : Prop} [Decidable p] {a b k : Nat} (h1 : p → a ≤ k) (h2 : ¬ p → b ≤ k) : (if p then a else b) ≤ k := by
  by_cases h : p
  · rw [if_pos h]; exact h1 h
  · rw [if_neg h]; exact h2 h
theorem next_le {need c : Nat} (hc : c < need) : Builtin.nextslicecap need c ≤ 16 * (need + 768) := by
  refine ite_le (fun _ => by omega) fun h1 => ite_le (fun _ => by omega) fun h2 => ?_
  have hg := growBy_le need 4 c
  have e : (c + 768) * 2 ^ 4 = 16 * (c + 768) := by rw [Nat.mul_comm]
  rw [e] at hg
  exact Nat.le_trans hg (by omega)
theorem run_ask (b : Nat) (w : World) : (askRoom b).run P w = .ok () w := by
  unfold askRoom
  generalize roomBytes = q
  by_cases hb : b > q
  · rw [if_pos hb]; rfl
  · rw [if_neg hb]; rfl
def NoInt (P : Program) (ats : Array TypeId) : Prop := match ats[1]? with | none => True | some t => ∃ d, P.underlying t = some d ∧ isInt d = false
theorem zero_size (z : Array Value) (n : Nat) : (Builtin.zeroCells z n).size = n * z.size := by simp [Builtin.zeroCells]
theorem app_in {ats : Array TypeId} {ty a el : TypeId} {ei : TypeInfo} {base : Option Addr} {sLen sCap n : Nat} {xv : Value} {arr : Array Value} {w' : World} (h0 : ats[0]? = some a) (hu : P.underlying a = some (.slice el)) (hi : P.info? el = some ei) (hn : NoInt P ats)
    (hl : (Builtin.lenOf xv).run P w = .ok n w) (hf : (Builtin.firstCells ei.size n xv).run P w = .ok arr w) (hfit : sLen + n ≤ sCap)
    (hst : (match base with | some b => storeCells (b.add (sLen * ei.size)) arr.toList | none => Pure.pure ()).run P w = .ok () w') :
    (Builtin.append_ ats ty #[.slice base sLen sCap, xv]).run P w = .ok (.slice base (sLen + n) sCap) w' := by
  unfold NoInt at hn
  have fin : ∀ (x : Result Value), (match base with
      | some b => (storeCells (b.add (sLen * ei.size)) arr.toList).run P w
      | none => .ok () w) = .ok () w' := fun _ => by cases base <;> exact hst
  cases ht : ats[1]? with
  | none =>
    simp only [Builtin.append_, h0, ht, arr0, arr1, Sem.run_bind, run_und hu, Result.andThen_ok, run_size hi, Sem.run_pure, Bool.false_eq_true, if_false, hl, if_pos hfit, Bool.not_false, if_true, hf]
    cases base with
    | none => cases hst; rfl
    | some b => simp only [Sem.run_bind, hst, Result.andThen_ok, Sem.run_pure]
  | some t =>
    rw [ht] at hn
    obtain ⟨d, hd, hi'⟩ := hn
    cases d with
    | int k => cases hi'
    | _ =>
      simp only [Builtin.append_, h0, ht, arr0, arr1, Sem.run_bind, run_und hu, run_und hd, Result.andThen_ok, run_size hi, Sem.run_pure, Bool.false_eq_true, if_false, hl, if_pos hfit, Bool.not_false, if_true, hf]
      cases base with
      | none => cases hst; rfl
      | some b => simp only [Sem.run_bind, hst, Result.andThen_ok, Sem.run_pure]
theorem app_grow {ats : Array TypeId} {ty a el : TypeId} {ei : TypeInfo} {zv : Value} {base : Option Addr} {sLen sCap n : Nat} {xv : Value} {arr old : Array Value} (h0 : ats[0]? = some a) (hu : P.underlying a = some (.slice el)) (hi : P.info? el = some ei)
    (hzv : ei.zero = some zv) (hn : NoInt P ats) (hl : (Builtin.lenOf xv).run P w = .ok n w) (hf : ∀ w' : World, w'.heap = w.heap → (Builtin.firstCells ei.size n xv).run P w' = .ok arr w')
    (hold : ∀ w' : World, w'.heap = w.heap → (Builtin.firstCells ei.size sLen (.slice base sLen sCap)).run P w' = .ok old w') (hfit : ¬ sLen + n ≤ sCap) (hb : 16 * (sLen + n + 768) * ei.bytes ≤ 2 ^ 48) (hb2 : sLen + n < 2 ^ 60) :
    ∃ nc, sLen + n ≤ nc ∧ (Builtin.append_ ats ty #[.slice base sLen sCap, xv]).run P w =
      .ok (.slice (some ⟨w.heap.size, 0, none⟩) (sLen + n) nc) { w with drawn := w.drawn + 1, heap := w.heap.push (.cells (old ++ arr ++ Builtin.zeroCells zv.cells (nc - (sLen + n))) el) } := by
  unfold NoInt at hn
  let q := Question.appendCap (sLen + n) sCap el
  refine ⟨q.cut (w.tape w.drawn q), Nat.le_add_right _ _, ?_⟩
  have hch : (Go.choose q).run P w = .ok (q.cut (w.tape w.drawn q)) { w with drawn := w.drawn + 1 } := by
    simp [Go.choose, Sem.run, q, Question.forced]
  have c1 : ¬ (((sLen + n : Nat) : Int) > IntKind.i64.max ∧ (False ∨ ei.bytes = 0)) := by
    rintro ⟨g, _⟩
    have : IntKind.i64.max = 9223372036854775807 := rfl
    rw [this] at g
    omega
  have c2 : ¬ Builtin.nextslicecap (sLen + n) sCap * ei.bytes > 2 ^ 48 := by
    have := next_le (need := sLen + n) (c := sCap) (by omega)
    have := Nat.mul_le_mul_right ei.bytes this
    omega
  have fin : ∀ x : Sem Value, x = (do
      let newCap ← Go.choose q
      askRoom (newCap * ei.bytes)
      let o ← Builtin.firstCells ei.size sLen (.slice base sLen sCap)
      let n' ← Builtin.firstCells ei.size n xv
      let rest := Builtin.zeroCells (← zeroValue el).cells (newCap - (sLen + n))
      Pure.pure (.slice (some (← Go.newRow el (o ++ n' ++ rest))) (sLen + n) newCap)) → x.run P w = .ok (.slice (some ⟨w.heap.size, 0, none⟩) (sLen + n) (q.cut (w.tape w.drawn q)))
        { w with drawn := w.drawn + 1, heap := w.heap.push (.cells (old ++ arr ++ Builtin.zeroCells zv.cells (q.cut (w.tape w.drawn q) - (sLen + n))) el) } := by
    rintro x rfl
    simp only [Sem.run_bind, hch, Result.andThen_ok, run_ask, hold { w with drawn := w.drawn + 1 } rfl, hf { w with drawn := w.drawn + 1 } rfl, run_zero hi hzv, run_newRow, Sem.run_pure]
  cases ht : ats[1]? with
  | none =>
    simp only [Builtin.append_, h0, ht, arr0, arr1, Sem.run_bind, run_und hu, Result.andThen_ok, run_size hi, Sem.run_pure, Bool.false_eq_true, if_false, hl, if_neg hfit, Bool.not_false, if_true, run_info hi, if_neg c1, if_neg c2]
    have := fin _ rfl
    simp only [Sem.run_bind, Sem.run_pure] at this
    exact this
  | some t =>
    rw [ht] at hn
    obtain ⟨d, hd, hi'⟩ := hn
    cases d with
    | int k => cases hi'
    | _ =>
      simp only [Builtin.append_, h0, ht, arr0, arr1, Sem.run_bind, run_und hu, run_und hd, Result.andThen_ok, run_size hi, Sem.run_pure, Bool.false_eq_true, if_false, hl, if_neg hfit, Bool.not_false, if_true, run_info hi, if_neg c1, if_neg c2]
      have := fin _ rfl
      simp only [Sem.run_bind, Sem.run_pure] at this
      exact this
end
section
variable {P : Program} {sm : Sum} {ν : Nat → Value} {m : Mu} {h : H} {w : World}
theorem kill_get (h : H) (b b' : Nat) : (h.kill b).t.get b' = if b' = b then none else h.t.get b' := T.get_put h.t none b b'
theorem Post.kill (hs : SR m ν h w) (b : Nat) : Post ν m h w m (h.kill b) w := by
  have hk : ∀ b' o, (h.kill b).t.get b' = some o → h.t.get b' = some o := fun b' o hb' => by
    rw [kill_get] at hb'
    split at hb'
    · cases hb'
    · exact hb'
  refine ⟨Agree.refl _ _, Nat.le_refl _, ⟨fun b' o hb' => hs.obj b' o (hk _ _ hb'), fun b1 b2 o1 o2 g1 g2 => hs.inj _ _ _ _ (hk _ _ g1) (hk _ _ g2)⟩, Nat.le_refl _, fun _ _ _ => rfl, fun b' o hb' hw => .inl ⟨b', o, hk _ _ hb', hw, rfl⟩, fun b' o hb' => .inl ⟨b', o, hk _ _ hb', rfl⟩, fun b' o hb' => .inl ⟨o, hk _ _ hb'⟩, SameEnv.refl w⟩
theorem Post.move {w' : World} (hs : SR m ν h w) (b : Nat) (o0 o : AO) (base size : Nat) (hb : h.t.get b = some o0) (hw0 : o0.wr = true)
    (hsize : w'.heap.size = w.heap.size) (hoth : ∀ r, r ≠ (m b).1 → w'.heap[r]? = w.heap[r]?)
    (ho : ∀ m', Agree h.next m m' → m' h.next = ((m b).1, base, size) → OR (h.next + 1) m' ν w' h.next o) (ev : SameEnv w w' := by exact ⟨rfl, rfl, rfl⟩) :
    Post ν m h w (fun x => if x = h.next then ((m b).1, base, size) else m x) ((h.kill b).new o) w' := by
  have hag : Agree h.next m (fun x => if x = h.next then ((m b).1, base, size) else m x) := fun x hx => by
    show (if x = h.next then _ else _) = _
    rw [if_neg (by omega)]
  have hnew : ∀ b' x, ((h.kill b).new o).t.get b' = some x → (b' = h.next ∧ x = o) ∨ (b' ≠ h.next ∧ b' ≠ b ∧ h.t.get b' = some x) := fun b' x hb' => by
    have : ((h.kill b).t.set h.next o).get b' = some x := hb'
    rw [T.get_set] at this
    by_cases e : b' = h.next
    · rw [if_pos e] at this; exact .inl ⟨e, (Option.some.inj this).symm⟩
    · rw [if_neg e, kill_get] at this
      split at this
      · cases this
      · rename_i e2; exact .inr ⟨e, e2, this⟩
  have hbn := (hs.obj b _ hb).1
  refine ⟨hag, Nat.le_succ _, ⟨fun b' x hb' => ?_, fun b1 b2 x x' g1 g2 e => ?_⟩, by omega, fun r hr hn => hoth r (fun e => hn b o0 hb hw0 e.symm), fun b' x hb' hw => ?_, fun b' x hb' => ?_, fun b' x hb' => ?_, ev⟩
  · rcases hnew b' x hb' with ⟨e1, e2⟩ | ⟨hne, hne2, hb'⟩
    · subst e1; subst e2
      exact ⟨Nat.lt_succ_self _, ho _ hag (if_pos rfl)⟩
    · obtain ⟨q1, q2⟩ := hs.obj b' x hb'
      exact ⟨Nat.lt_succ_of_lt q1, (q2.heap (hoth _ fun e => hne2 (hs.inj _ _ _ _ hb' hb e))).mono (Nat.le_succ _) hag q1⟩
  · rcases hnew b1 x g1 with ⟨e1, _⟩ | ⟨n1, n2, g1'⟩ <;> rcases hnew b2 x' g2 with ⟨e2, _⟩ | ⟨n3, n4, g2'⟩
    · rw [e1, e2]
    · rw [if_pos e1, if_neg n3] at e
      exact absurd (hs.inj _ _ _ _ hb g2' e).symm n4
    · rw [if_neg n1, if_pos e2] at e
      exact absurd (hs.inj _ _ _ _ g1' hb e) n2
    · rw [if_neg n1, if_neg n3] at e
      exact hs.inj _ _ _ _ g1' g2' e
  · rcases hnew b' x hb' with ⟨e1, _⟩ | ⟨n1, n2, g⟩
    · exact .inl ⟨b, o0, hb, hw0, by rw [if_pos e1]⟩
    · exact .inl ⟨b', x, g, hw, by rw [if_neg n1]⟩
  · rcases hnew b' x hb' with ⟨e1, _⟩ | ⟨n1, n2, g⟩
    · exact .inl ⟨b, o0, hb, by rw [if_pos e1]⟩
    · exact .inl ⟨b', x, g, by rw [if_neg n1]⟩
  · rcases hnew b' x hb' with ⟨e1, _⟩ | ⟨n1, n2, g⟩
    · exact .inr (Nat.le_of_eq e1.symm)
    · exact .inl ⟨x, g⟩
theorem grown_s {el : TypeId} {l : List AV} {cells : Array Value} {k z : Nat} (hs : SR m ν h w) (hl : Rs h.next m ν l cells.toList) (rest : Array Value) (hk : l.length = k) :
    Post ν m h w (fun b => if b = h.next then (w.heap.size, 0, (cells ++ rest).size) else m b) (newRow h el l k true false) { w with drawn := w.drawn + 1, heap := w.heap.push (.cells (cells ++ rest) el) } := by
  have hlen := hl.len
  simp only [Array.length_toList] at hlen
  have hp := newRow_s hs el l k true false (cells ++ rest) 0 0 (by
    rw [Array.toList_append, List.take_append_of_le_length (by simp; omega), List.take_of_length_le (by simp; omega)]; exact hl) (by simp; omega) (fun h => by cases h) (.inl rfl)
  exact Post.heapR (w' := { w with heap := w.heap.push (.cells (cells ++ rest) el) }) rfl hp
end
section
variable {P : Program} {sm : Sum} {ν : Nat → Value} {m : Mu} {h : H} {w : World}
theorem noInt_of {ats : Array TypeId} {at1 : Option TypeId} {zeros : Bool} (hz : (match at1 with | none => some false | some t => (P.underlying t).map isInt) = some zeros) (h1 : ats[1]? = at1) (hzf : ¬ zeros = true) : NoInt P ats := by
  unfold NoInt
  rw [h1]
  cases at1 with
  | none => trivial
  | some t =>
    obtain ⟨d, hd, e⟩ := map_eq hz
    exact ⟨d, hd, by rw [e]; simpa using hzf⟩
theorem grown_R {k nc es sz : Nat} (hk : k ≤ nc) (hsz : nc * es = sz) :
    R (h.next + 1) (fun b => if b = h.next then (w.heap.size, 0, sz) else m b) ν (.slice h.next 0 k k es true) (.slice (some ⟨w.heap.size, 0, none⟩) k nc) := by
  simp only [R]
  refine ⟨Nat.lt_succ_self _, 0, nc, by simp, hk, fun _ => by simp, ?_⟩
  simp only [if_true]
  exact ⟨hk, by omega⟩
theorem size_all {a b : Array Value} {zc : Array Value} {k n nc s : Nat} (ha : a.size = k * s) (hb : b.size = n * s) (hz : zc.size = s) (hk : k + n ≤ nc) : nc * s = (a ++ b ++ Builtin.zeroCells zc (nc - (k + n))).size := by
  simp only [Array.size_append, zero_size, ha, hb, hz, ← Nat.add_mul]
  congr 1; omega
theorem cellsFrom_get {c : T AV} : ∀ {s off : Nat} {l : List AV}, cellsFrom c s off = some l → ∀ j, j < s → l[j]? = c.get (off + j)
  | 0, off, l, h, j, hj => by omega
  | s + 1, off, l, h, j, hj => by
    obtain ⟨a, ha, h⟩ := Option.bind_eq_some_iff.1 h
    obtain ⟨l', hl, rfl⟩ := map_eq h
    cases j with
    | zero => simp [ha]
    | succ j =>
      have := cellsFrom_get hl j (by omega)
      rw [show off + (j + 1) = off + 1 + j from by omega, ← this]
      rfl
theorem splice_get (cc arr : Array Value) (p : Nat) (hp : p + arr.size ≤ cc.size) :
    (cc.toList.take p ++ arr.toList ++ cc.toList.drop (p + arr.toList.length)).toArray.size = cc.size ∧
    (∀ j, j < p → (cc.toList.take p ++ arr.toList ++ cc.toList.drop (p + arr.toList.length)).toArray[j]? = cc[j]?) ∧
    (∀ j, p ≤ j → j < p + arr.size → (cc.toList.take p ++ arr.toList ++ cc.toList.drop (p + arr.toList.length)).toArray[j]? = arr[j - p]?) := by
  have e1 : (cc.toList.take p).length = p := by simp; omega
  refine ⟨by simp; omega, fun j hj => ?_, fun j j1 j2 => ?_⟩
  · rw [List.getElem?_toArray, List.append_assoc, List.getElem?_append_left (by omega), List.getElem?_take, if_pos hj]; simp
  · rw [List.getElem?_toArray, List.append_assoc, List.getElem?_append_right (by omega), e1, List.getElem?_append_left (by simp; omega)]; simp
theorem append_s (hν : ∀ k, (ν k).oneCell' = true) {a : TypeId} {at1 : Option TypeId} {s x a' : AV} {h' : H} {sv xv : Value} {ats : Array TypeId} {ty : TypeId} (he : appendA P h a at1 s x = some (a', h')) (hs : SR m ν h w)
    (hsv : R h.next m ν s sv) (hxv : R h.next m ν x xv) (h0 : ats[0]? = some a) (h1 : ats[1]? = at1) : VS ν m h w a' h' ((Builtin.append_ ats ty #[sv, xv]).run P w) := by
  obtain ⟨d, hd, he⟩ := bnd_eq he
  cases d with
  | slice el =>
    obtain ⟨ei, hei, he⟩ := bnd_eq he
    obtain ⟨z, hz, he⟩ := bnd_eq he
    obtain ⟨zeros, hzr, he⟩ := bnd_eq he
    rw [bcond] at he
    split at he
    · cases he
    · rename_i hzf
      have hn := noInt_of (P := P) hzr h1 hzf
      obtain ⟨n, hln, he⟩ := bnd_eq he
      obtain ⟨new, hnew, he⟩ := bnd_eq he
      rw [bcond] at he
      split at he
      · cases he
      · rename_i hb
        simp only [Bool.not_eq_true, Bool.not_eq_false', Bool.and_eq_true] at hb
        obtain ⟨hzl, hbig⟩ := hb
        have hzl := of_beq hzl
        have hbig : (n + 1000) * (ei.bytes + 1) < 2 ^ 40 := by simpa [Nat.blt_eq] using hbig
        obtain ⟨i, zv, hi, hzv, ho⟩ := zeroOf_eq hz
        have : i = ei := by rw [hi] at hei; exact Option.some.inj hei
        subst this
        have hzs : zv.cells.size = i.size := by have := (R_cells hν (ofVal_R (n := h.next) (m := m) (ν := ν) ho)).len; simp at this; omega
        obtain ⟨arr, q1, q2⟩ := first_s (P := P) hnew hs hxv (fun len hl => by rw [hln] at hl; cases hl; exact Nat.le_refl _)
        have hl := lenOf_s (P := P) (w := w) hln hxv
        have hnl : new.length = n * i.size := firstA_len hnew (fun len hl => by rw [hln] at hl; cases hl; exact Nat.le_refl _)
        have hal : arr.size = n * i.size := by rw [← hnl]; simpa using q2.len
        have hp40 : (2 : Nat) ^ 40 = 1099511627776 := by decide
        have hp48 : (2 : Nat) ^ 48 = 281474976710656 := by decide
        have hp60 : (2 : Nat) ^ 60 = 1152921504606846976 := by decide
        rw [hp40] at hbig
        have hbe : n * i.bytes + n + 1000 * i.bytes < 1099511627776 := by
          have : (n + 1000) * (i.bytes + 1) = n * i.bytes + n + 1000 * i.bytes + 1000 := by
            rw [Nat.add_mul, Nat.mul_add, Nat.mul_add, Nat.mul_one, Nat.mul_one, Nat.add_assoc, Nat.add_assoc, Nat.add_assoc]
          omega
        cases s with
        | nils =>
          simp only [R] at hsv
          subst hsv
          simp only [bcond] at he
          split at he
          · rename_i hn0
            cases he
            have hn0 := of_beq hn0
            subst hn0
            refine VS.pure hs (x := .slice none (0 + 0) 0) ?_ (by simp only [R])
            exact app_in (n := 0) h0 hd hi hn hl (q1 w rfl) (Nat.le_refl _) rfl
          · rename_i hn0
            cases he
            have hn0' : n ≠ 0 := fun e => hn0 (beq_t e)
            obtain ⟨nc, g1, g2⟩ := app_grow (ty := ty) (base := none) (sLen := 0) (sCap := 0) (old := #[]) h0 hd hi hzv hn hl q1 (fun _ _ => rfl) (by omega) (by
              rw [hp48]
              have : 16 * (0 + n + 768) * i.bytes = 16 * (n * i.bytes) + 16 * 768 * i.bytes := by simp only [Nat.mul_add, Nat.add_mul, Nat.zero_add]; rw [Nat.mul_assoc]
              omega) (by rw [hp60]; omega)
            have hgp := grown_s (el := el) (cells := #[] ++ arr) (k := n * i.size) (z := 0) hs (by simpa using q2) (Builtin.zeroCells zv.cells (nc - (0 + n))) hnl
            rw [Nat.zero_add] at g1
            refine ⟨_, _, _, g2, hgp, ?_⟩
            rw [Nat.zero_add]
            exact grown_R g1 (by have := size_all (a := #[]) (b := arr) (k := 0) (n := n) (nc := nc) (s := i.size) (by simp) hal hzs (by omega); rw [Nat.zero_add] at this; exact this)
        | slice b off len cap es op =>
          simp only [bcond] at he
          split at he
          · cases he
          rename_i hc0
          simp only [Bool.not_eq_true, Bool.not_eq_false', Bool.and_eq_true] at hc0
          obtain ⟨hes, hlb⟩ := hc0
          have hes := of_beq hes
          have hlb : (len + cap + 1000) * (i.bytes + 1) < 2 ^ 40 := by simpa [Nat.blt_eq] using hlb
          rw [hp40] at hlb
          have hlb2 : len * i.bytes + len + cap < 1099511627776 := by
            have e1 : (len + cap + 1000) * (i.bytes + 1) = (len * i.bytes + cap * i.bytes + 1000 * i.bytes) + (len + cap + 1000) := by
              rw [Nat.mul_add, Nat.add_mul, Nat.add_mul, Nat.mul_one]
            omega
          have hsv0 := hsv
          simp only [R] at hsv
          obtain ⟨hbn, o, c, rfl, hlc, ho, hcp⟩ := hsv
          have hcc : cap ≤ c := by
            split at hcp
            · exact hcp.1
            · omega
          split at he
          · -- nothing is put
            rename_i hn0
            cases he
            have hn0 := of_beq hn0
            subst hn0
            have ha0 : arr.toList = [] := by
              have : arr.size = 0 := by rw [hal]; simp
              simpa using this
            refine VS.pure hs (x := .slice (some ⟨(m b).1, o, none⟩) (len + 0) c) ?_ hsv0
            exact app_in (n := 0) h0 hd hi hn hl (q1 w rfl) (by omega) (by simp [ha0, storeCells])
          · rename_i hn0
            have hn0' : n ≠ 0 := fun e => hn0 (beq_t e)
            have hgb : 16 * (len + n + 768) * i.bytes ≤ 2 ^ 48 := by
              rw [hp48]
              have : 16 * (len + n + 768) * i.bytes = 16 * (len * i.bytes) + 16 * (n * i.bytes) + 16 * 768 * i.bytes := by
                rw [Nat.mul_add, Nat.mul_add, Nat.add_mul, Nat.add_mul, Nat.mul_assoc, Nat.mul_assoc]
              omega
            have hgb2 : len + n < 2 ^ 60 := by rw [hp60]; omega
            cases hg : h.t.get b with
            | none => rw [hg] at he; cases he
            | some ob =>
              rw [hg] at he
              cases ob with
              | row c0 k e opr fz mk =>
                simp only at he
                split at he
                · -- there is room
                  rename_i hroom
                  have hroom := Nat.le_of_ble_eq_true hroom
                  split at he
                  · rename_i hw
                    cases he
                    simp only [Bool.and_eq_true] at hw
                    obtain ⟨⟨⟨w1, w2⟩, w3⟩, w4⟩ := hw
                    have w1 : 0 < n * es := by simpa [Nat.blt_eq] using w1
                    have w2 := Nat.le_of_ble_eq_true w2
                    have w3 := Nat.le_of_ble_eq_true w3
                    rw [Nat.add_mul] at w3
                    have hco : o = (m b).2.1 + off := ho (by omega)
                    subst hco
                    obtain ⟨w', g1, g2⟩ := write_s (P := P) hν hg hs q2 w4 (by rw [hnl, ← hes]; exact w1) w2 (by rw [hnl, ← hes]; omega)
                    refine ⟨.slice (some ⟨(m b).1, (m b).2.1 + off, none⟩) (len + n) c, m, w', ?_, g2, ?_⟩
                    · refine app_in h0 hd hi hn hl (q1 w rfl) (by omega) ?_
                      simp only [add_at, ← hes]
                      rw [Nat.add_assoc]
                      exact g1
                    · simp only [R]
                      exact ⟨hbn, _, c, rfl, by omega, ho, hcp⟩
                  · cases he
                · rename_i hroom
                  have hroom' : ¬ len + n ≤ cap := fun e => hroom (Nat.ble_eq_true_of_le e)
                  split at he
                  · -- closed: it grows
                    rename_i hop
                    have hop : op = false := by simpa using hop
                    split at he
                    · rename_i hle
                      obtain ⟨old, hold, he⟩ := bnd_eq he
                      cases he
                      have hfo : firstA h i.size len (.slice b off len cap es op) = some old := by
                        simp only [firstA, hg, bcond, ← hes]
                        rw [if_pos hle]; exact hold
                      obtain ⟨arr0, r1, r2⟩ := first_s (P := P) hfo hs hsv0 (fun l hl => by cases hl; exact Nat.le_refl _)
                      have hol : old.length = len * i.size := firstA_len hfo (fun l hl => by cases hl; exact Nat.le_refl _)
                      have hoa : arr0.size = len * i.size := by rw [← hol]; simpa using r2.len
                      have hcap : c = cap := by rw [hop] at hcp; simpa using hcp
                      obtain ⟨nc, g1, g2⟩ := app_grow (ty := ty) h0 hd hi hzv hn hl q1 r1 (by omega) hgb hgb2
                      have hgp := grown_s (el := el) (cells := arr0 ++ arr) (k := (len + n) * es) (z := 0) hs (by rw [Array.toList_append]; exact r2.app q2) (Builtin.zeroCells zv.cells (nc - (len + n))) (by simp [hol, hnl, hes, Nat.add_mul])
                      refine ⟨_, _, _, g2, hgp, ?_⟩
                      rw [hes]
                      exact grown_R g1 (size_all hoa hal hzs g1)
                    · cases he
                  · -- open: it goes on where it is, or elsewhere
                    rename_i hop
                    have hop : op = true := by simpa using hop
                    rw [if_pos hop] at hcp
                    split at he
                    · cases he
                    rename_i hw
                    simp only [Bool.not_eq_true, Bool.not_eq_false', Bool.and_eq_true] at hw
                    obtain ⟨⟨⟨⟨w1, w2⟩, w3⟩, w4⟩, w5⟩ := hw
                    have w1 := Nat.le_of_ble_eq_true w1
                    have w2' := Nat.le_of_ble_eq_true w2
                    have w3 := of_beq w3
                    have hfo' : ∃ tr fz', a' = .slice h.next 0 (len + n) (len + n) es true ∧ h' = (h.kill b).new (.row tr ((len + n) * es) el true fz' mk) ∧ fz ≤ off + fz' ∧
                        (∀ j v, j < len * es → tr.get j = some v → c0.get (off + j) = some v) ∧ ∀ j, len * es ≤ j → j < (len + n) * es → tr.get j = new[j - len * es]? := by
                      have hnl' : new.length = n * es := by rw [hnl, hes]
                      split at he
                      · rename_i h00
                        have h00 := of_beq h00
                        cases he
                        refine ⟨_, _, rfl, rfl, by omega, fun j v hj hv => ?_, fun j j1 j2 => ?_⟩
                        · rw [get_putCells, if_neg (by omega)] at hv
                          rw [h00, Nat.zero_add]; exact hv
                        · rw [get_putCells, if_pos (by rw [hnl']; rw [Nat.add_mul] at j2; omega)]
                      · rename_i h00
                        obtain ⟨old, hold, he⟩ := bnd_eq he
                        cases he
                        have hol := cellsFrom_len _ _ hold
                        refine ⟨_, _, rfl, rfl, by omega, fun j v hj hv => ?_, fun j j1 j2 => ?_⟩
                        · rw [T.get_ofL, if_pos ⟨Nat.zero_le _, by simp; omega⟩, Nat.sub_zero, List.getElem?_append_left (by omega)] at hv
                          rw [← cellsFrom_get hold j hj]; exact hv
                        · rw [T.get_ofL, if_pos ⟨Nat.zero_le _, by simp [hol, hnl']; rw [Nat.add_mul] at j2; omega⟩, Nat.sub_zero, List.getElem?_append_right (by omega), hol]
                    obtain ⟨tr, fz', rfl, rfl, hfz, htr1, htr2⟩ := hfo'
                    have hwr : (AO.row c0 k e opr fz mk).wr = true := by simp only [AO.wr, w4, Bool.true_or]
                    obtain ⟨cc, lo, hi', z1, z2, z3, z4, z5, z6⟩ := (hs.obj b _ hg).2
                    have hcells : ∀ {n' : Nat} {m' : Mu} {dd : Array Value} {B : Nat}, h.next ≤ n' → Agree h.next m m' → (∀ j, j < len * es → dd[B + j]? = cc[(m b).2.1 + off + j]?) →
                        (∀ j, len * es ≤ j → j < (len + n) * es → dd[B + j]? = arr[j - len * es]?) →
                        ∀ j v, j < (len + n) * es → tr.get j = some v → ∃ x, dd[B + j]? = some x ∧ R n' m' ν v x := by
                      intro n' m' dd B hn' hag d1 d2 j v hj hv
                      by_cases hj2 : j < len * es
                      · obtain ⟨x, hx, hr⟩ := z5 (off + j) v (by omega) (htr1 j v hj2 hv)
                        exact ⟨x, by rw [d1 j hj2, Nat.add_assoc]; exact hx, hr.mono hn' hag⟩
                      · have hj3 := Nat.le_of_not_lt hj2
                        rw [htr2 j hj3 hj] at hv
                        obtain ⟨x, hx, hr⟩ := q2.get _ hv
                        exact ⟨x, by rw [d2 j hj3 hj]; simpa using hx, hr.mono hn' hag⟩
                    have hal' : arr.size = n * es := by rw [hal, hes]
                    by_cases hin : len + n ≤ c
                    · -- in its place
                      have hco : o = (m b).2.1 + off := ho (by omega)
                      subst hco
                      have hfit : (m b).2.1 + off + (len + n) * es ≤ cc.size := by
                        have h8 := hcp.2
                        have : (len + n) * es ≤ c * es := Nat.mul_le_mul_right _ hin
                        omega
                      have hfit2 : (m b).2.1 + off + len * es + n * es ≤ cc.size := by rw [Nat.add_mul] at hfit; omega
                      have hrun := run_cells P (m b).1 ((m b).2.1 + off + len * es) e lo hi' arr.toList 0 cc w z1 (fun j j1 j2 => by
                        rw [Array.length_toList, hal'] at j2
                        rcases z6 with z6 | z6 | z6 <;> omega) (by rw [Array.length_toList, hal']; omega) (Rs_one hν q2 w5)
                      simp only [Nat.add_zero] at hrun
                      obtain ⟨x1, x2, x3⟩ := splice_get cc arr ((m b).2.1 + off + len * es) (by rw [hal']; exact hfit2)
                      generalize hX : (cc.toList.take ((m b).2.1 + off + len * es) ++ arr.toList ++ cc.toList.drop ((m b).2.1 + off + len * es + arr.toList.length)).toArray = X at x1 x2 x3 hrun
                      have hpost := Post.move (w' := w.setRow (m b).1 X) hs b _ (.row tr ((len + n) * es) el true fz' mk) ((m b).2.1 + off) (m b).2.2 hg hwr (setRow_size w (m b).1 X) (fun r hr => setRow_other w (m b).1 r X hr) (fun m' hag hm => by
                        refine ⟨X, lo, hi', by rw [hm, ← w3]; exact setRow_heap w _ _ _ _ _ z1, ?_, ?_, fun h => by simp at h, ?_, ?_⟩
                        · rw [hm, x1]; exact z2
                        · rw [hm, x1]; exact hfit
                        · rw [hm]
                          simp only
                          refine hcells (Nat.le_succ _) hag (fun j hj => x2 _ (by omega)) (fun j j1 j2 => ?_)
                          rw [x3 _ (by omega) (by rw [hal']; rw [Nat.add_mul] at j2; omega)]
                          rw [show (m b).2.1 + off + j - ((m b).2.1 + off + len * es) = j - len * es from by omega]
                        · rw [hm, x1]
                          rcases z6 with z6 | z6 | z6
                          · exact .inl z6
                          · exact .inr (.inl ⟨z6.1, by simp only; omega⟩)
                          · exact .inr (.inr z6))
                      refine ⟨.slice (some ⟨(m b).1, (m b).2.1 + off, none⟩) (len + n) c, _, _, ?_, hpost, ?_⟩
                      · refine app_in h0 hd hi hn hl (q1 w rfl) hin ?_
                        simp only [add_at, ← hes]
                        exact hrun
                      · simp only [R]
                        refine ⟨Nat.lt_succ_self _, (m b).2.1 + off, c, by simp, hin, fun _ => by simp, ?_⟩
                        simp only [if_true]
                        exact ⟨hin, hcp.2⟩
                    · -- elsewhere
                      have hxs : (m b).2.1 + off + len * es ≤ cc.size := by omega
                      let xs := (cc.toList.drop ((m b).2.1 + off)).take (len * es)
                      have hxl : xs.length = len * es := by simp [xs]; omega
                      have hxg : ∀ j, j < len * es → xs[j]? = cc[(m b).2.1 + off + j]? := fun j hj => by
                        show ((cc.toList.drop ((m b).2.1 + off)).take (len * es))[j]? = _
                        rw [List.getElem?_take, if_pos hj, List.getElem?_drop]; simp
                      have hold : ∀ w' : World, w'.heap = w.heap → (Builtin.firstCells i.size len (.slice (some ⟨(m b).1, o, none⟩) len c)).run P w' = .ok xs.toArray w' := fun w' ew => by
                        have := run_loadCells_list (P := P) w' ⟨(m b).1, o, none⟩ xs (fun j v hj => by
                          have hjl : j < len * es := by
                            rcases Nat.lt_or_ge j xs.length with h' | h'
                            · omega
                            · rw [List.getElem?_eq_none h'] at hj; cases hj
                          have hl0 : len ≠ 0 := by rintro rfl; simp at hjl
                          rw [add_at, ho (by omega), cell_of_row w' _ _ _ _ _ (by rw [ew]; exact z1), ← hxg j hjl]
                          exact hj)
                        rw [hxl, hes] at this
                        simpa [Builtin.firstCells] using this
                      obtain ⟨nc, g1, g2⟩ := app_grow (ty := ty) h0 hd hi hzv hn hl q1 hold (by omega) hgb hgb2
                      have hxa : xs.toArray.size = len * i.size := by rw [← hes]; simpa using hxl
                      have hsz := size_all hxa hal hzs g1
                      have hk := Post.kill hs b
                      have hpost := Post.new hk.sr (.row tr ((len + n) * es) el true fz' mk) (.cells (xs.toArray ++ arr ++ Builtin.zeroCells zv.cells (nc - (len + n))) el) 0 (xs.toArray ++ arr ++ Builtin.zeroCells zv.cells (nc - (len + n))).size (fun m' w' hag hm hw' => by
                        refine ⟨xs.toArray ++ arr ++ Builtin.zeroCells zv.cells (nc - (len + n)), 0, 0, by rw [hw', hm]; simp, by rw [hm], ?_, fun h => by simp at h, ?_, .inl rfl⟩
                        · rw [hm, ← hsz, ← hes]
                          simp only [Nat.zero_add]
                          exact Nat.mul_le_mul_right _ g1
                        · rw [hm]
                          refine hcells (Nat.le_succ _) hag (fun j hj => ?_) (fun j j1 j2 => ?_)
                          · simp only [Nat.zero_add]
                            rw [Array.getElem?_append_left (by rw [Array.size_append, hxa, ← hes]; omega), Array.getElem?_append_left (by rw [hxa, ← hes]; omega)]
                            rw [← hxg j hj]; simp
                          · simp only [Nat.zero_add]
                            rw [Nat.add_mul] at j2
                            rw [Array.getElem?_append_left (by rw [Array.size_append, hxa, ← hes, hal']; omega), Array.getElem?_append_right (by rw [hxa, ← hes]; omega), hxa, ← hes])
                      refine ⟨_, _, _, g2, Post.heapR (w' := { w with heap := w.heap.push (.cells (xs.toArray ++ arr ++ Builtin.zeroCells zv.cells (nc - (len + n))) el) }) rfl (hk.trans hpost), ?_⟩
                      exact grown_R g1 (by rw [hes]; exact hsz)
              | _ => cases he
        | _ => cases he
  | _ => cases he
end
section
variable {P : Program} {sm : Sum} {ν : Nat → Value} {m : Mu} {h : H} {w : World}
theorem liesAt_at {e : TypeId} (hc : P.cellsOf e = 1) (count off n : Nat) (hn : off + n ≤ count) : liesAt P P.depth e count off e n = true := by
  have hd : P.depth = (2 * (P.types.size + Made.depth) + 1) + 1 := rfl
  rw [hd]
  simp only [liesAt, Bool.or_eq_true]
  left
  rw [hd]
  simp [rowAt, hc, hn, sameLayout]
  try omega
theorem sliceData_s {x : AV} {nx : Nx} {h' : H} {v : Value} {ats : Array TypeId} {ty : TypeId} (he : bSliceData [x] h = some (nx, h')) (hs : SR m ν h w) (hx : R h.next m ν x v) :
    ∃ r, nx = .val r ∧ VS ν m h w r h' ((Builtin.unsafeSliceData_ ats ty #[v]).run P w) := by
  cases x with
  | slice b off len cap es op =>
    simp only [bSliceData, bcond] at he
    split at he
    · cases he
    · rename_i hc
      cases he
      have hc' : cap ≠ 0 := fun e => hc (beq_t e)
      simp only [R] at hx
      obtain ⟨hbn, o, c, rfl, hlc, ho, hcp⟩ := hx
      have hcn : c ≠ 0 := by
        split at hcp
        · omega
        · omega
      refine ⟨_, rfl, VS.pure hs (Lib.run_unsafeSliceData_row w ats ty _ _ _ hcn) ?_⟩
      simp only [R]
      exact ⟨hbn, by rw [ho hcn]⟩
  | nils =>
    cases he
    simp only [R] at hx
    subst hx
    exact ⟨_, rfl, VS.pure hs (Lib.run_unsafeSliceData_nil w ats ty _ _) (by simp only [R])⟩
  | _ => cases he
theorem string_s {a : TypeId} {p : AV} {k : IntKind} {n : Int} {nx : Nx} {h' : H} {v u : Value} {ats : Array TypeId} {ty : TypeId} (he : bString P a [p, .int k n] h = some (nx, h')) (hs : SR m ν h w) (hp : R h.next m ν p v) (hn : R h.next m ν (.int k n) u)
    (h0 : ats[0]? = some a) : ∃ r, nx = .val r ∧ VS ν m h w r h' ((Builtin.unsafeString_ ats ty #[v, u]).run P w) := by
  cases R_int hn
  have hmax : IntKind.i64.max = 9223372036854775807 := rfl
  cases p with
  | nilp =>
    simp only [bString, bcond] at he
    split at he
    · rename_i hz
      cases he
      have hz : n = 0 := by simpa using hz
      subst hz
      simp only [R] at hp
      subst hp
      refine ⟨_, rfl, VS.pure hs (x := .string .empty) ?_ (by simp only [R]; exact ⟨rfl, by simp⟩)⟩
      change Sem.run P (asInt (.int k 0) >>= _) w = _
      simp [asInt, asIntOf, h0, hmax]
    · cases he
  | ptr b off =>
    obtain ⟨hbn, rfl⟩ := R_ptr hp
    simp only [bString, bcond] at he
    split at he
    · rename_i hc
      simp only [Bool.and_eq_true] at hc
      have c1 := dec_t hc.1
      have c2 := dec_t hc.2
      obtain ⟨s, hb, he⟩ := bnd_eq he
      obtain ⟨d, hd, he⟩ := bnd_eq he
      cases d with
      | pointer e =>
        obtain ⟨z, hz, he⟩ := bnd_eq he
        obtain ⟨ei, hei, rfl⟩ := szOf_eq hz
        cases hg : h.t.get b with
        | none => rw [hg] at he; cases he
        | some ob =>
          rw [hg] at he
          cases ob with
          | row c k' e' op fz mk =>
            cases op with
            | false => cases he
            | true => cases mk with
              | true => cases he
              | false =>
                simp only at he
                split at he
                · rename_i hq
                  cases he
                  simp only [Bool.and_eq_true] at hq
                  have hq1 := of_beq hq.1
                  have hq2 := of_beq hq.2
                  subst hq1
                  obtain ⟨ns, rfl, hlt, hge, hlen, hcell⟩ := bytesOf_s hb hs
                  obtain ⟨cc, lo, hi', z1, z2, z3, z4, z5, z6⟩ := (hs.obj b _ hg).2
                  have hle : off + n.toNat ≤ k' := by
                    simp only [bytesOf, hg, bcond] at hb
                    split at hb
                    · rename_i hh; exact Nat.le_of_ble_eq_true hh
                    · cases hb
                  obtain ⟨lo', hi2, y1, y2, y3, y4, y5⟩ := freeze_row (off := (m b).2.1 + off) (n := n.toNat) z1 (by omega)
                  have hcells : P.cellsOf e' = 1 := by simp [Program.cellsOf, hei, hq2]
                  have hshape : w.shape? (m b).1 = some (e', cc.size) := by simp [World.shape?, z1]
                  have hlb := Lib.run_loadBytes (P := P) w (ns.map fun i => UInt8.ofNat i.toNat) ⟨(m b).1, (m b).2.1 + off, none⟩ .empty (fun j x hj => by
                    simp only [List.getElem?_map, Option.map_eq_some_iff] at hj
                    obtain ⟨i, hi, rfl⟩ := hj
                    rw [add_at, hcell j i hi]
                    have hi256 : i.toNat < 256 := hlt _ (List.mem_map_of_mem (List.mem_of_getElem? hi))
                    have hi0 := hge i (List.mem_of_getElem? hi)
                    congr 2
                    simp [Nat.mod_eq_of_lt hi256, Int.toNat_of_nonneg hi0])
                  rw [List.length_map, hlen] at hlb
                  have hlies := liesAt_at (P := P) hcells (cc.size / P.cellsOf e') ((m b).2.1 + off) n.toNat (by rw [hcells, Nat.div_one]; omega)
                  have hnn : ¬ n < 0 := by omega
                  have hnm : ¬ (9223372036854775807 : Int) < n := by omega
                  have hn0 : ¬ n = 0 := by omega
                  refine ⟨_, rfl, .string ⟨(ByteArray.empty).data ++ (ns.map fun i => UInt8.ofNat i.toNat).toArray⟩, m, w.freeze ⟨(m b).1, (m b).2.1 + off, none⟩ n.toNat, ?_, ?_, ?_⟩
                  · change Sem.run P (asInt (.int k n) >>= _) w = _
                    simp [asInt, asIntOf, h0, hmax, hnn, hnm, hn0, variablesAt, shape, Sem.run, hshape, elemOf, run_und hd, program, hlies, hlb, Go.freeze]
                  · refine Post.turn hs b _ _ hg (by simp [AO.wr]) y5 y4 ?_ (by unfold World.freeze; split <;> exact ⟨rfl, rfl, rfl⟩)
                    refine ⟨cc, lo', hi2, y1, z2, z3, fun h => by simp at h, z5, .inr (.inl ?_)⟩
                    have hfz : ∀ q : Nat, q ≤ fz ∨ q ≤ off + n.toNat → q ≤ (if (off + n.toNat).ble fz = true then fz else off + n.toNat) := fun q hq => by
                      split
                      · rename_i hh; have := Nat.le_of_ble_eq_true hh; omega
                      · rename_i hh
                        have : ¬ off + n.toNat ≤ fz := fun e => hh (Nat.ble_eq_true_of_le e)
                        omega
                    by_cases hl : lo = hi'
                    · obtain ⟨g1, g2⟩ := y2 hl
                      subst g1; subst g2
                      refine ⟨by omega, ?_⟩
                      have := hfz (off + n.toNat) (.inr (Nat.le_refl _))
                      omega
                    · obtain ⟨g1, g2⟩ := y3 hl
                      rcases z6 with z6 | z6 | z6
                      · exact absurd z6 hl
                      · have q1 := hfz fz (.inl (Nat.le_refl _))
                        have q2 := hfz (off + n.toNat) (.inr (Nat.le_refl _))
                        subst g1; subst g2
                        refine ⟨by omega, by omega⟩
                      · cases z6.1
                  · simp only [R]
                    refine ⟨?_, hlt⟩
                    congr 1
                    simp [bs, List.map_map, Function.comp_def]
                · cases he
          | _ => cases he
      | _ => cases he
    · cases he
  | _ => cases he
end
abbrev Tells := FuncId → Array Value → World → Value → World → Prop
def DR (n : Nat) (m : Mu) (ν : Nat → Value) : D → Deferred → Prop
  | .fn f args, x => ∃ cap A, x = { target := .fn (.func f) cap, args := A } ∧ Rs n m ν args (A.toList ++ cap.toList)
  | .mark r, x => r < n ∧ x = { target := .collected (m r).1, args := #[] }
section
variable {P : Program} {sm : Sum} {TT : Tells} {ν : Nat → Value} {m : Mu} {h : H} {w : World}
def SumVal (P : Program) (TT : Tells) (ν : Nat → Value) (m : Mu) (h : H) (w : World) (v : AV) (h' : H) (r : Result Next) : Prop :=
  (∃ x m' w', r = .ok (.value x) w' ∧ Post ν m h w m' h' w' ∧ R h'.next m' ν v x) ∨
  ∃ f A, r = .ok (.enter f A) w ∧ (Calls P f A w fun e w' => ∃ x, e = .returned x ∧ TT f A w x w') ∧ ∀ x w', TT f A w x w' → ∃ m', Post ν m h w m' h' w' ∧ R h'.next m' ν v x
structure OkSum (P : Program) (sm : Sum) (TT : Tells) (ν : Nat → Value) : Prop where
  eq : OkEq P sm
  sum : ∀ f g, sm.f f = some g → ∀ (args : List AV) (h : H) (v : AV) (h' : H), g args h = some (v, h') → ∀ (m : Mu) (w : World) (A : Array Value), SR m ν h w → Rs h.next m ν args A.toList →
    SumVal P TT ν m h w v h' ((callFunc f A).run P w)
  body : ∀ f fn, P.funcs[f]? = some fn → fn.body.isSome = true → ∀ (A : Array Value) (w : World), (callFunc f A).run P w = .ok (.enter f A) w
def RunOK (P : Program) (TT : Tells) (ν : Nat → Value) (m : Mu) (h : H) (w : World) (h' : H) (r : Result Next) : Nx → Prop
  | .val v => SumVal P TT ν m h w v h' r
  | .skip => ∃ m' w', r = .ok .skip w' ∧ Post ν m h w m' h' w'
  | .pan v => h' = h ∧ ∃ x, r = .halt (.panic x) w ∧ R h.next m ν v x
  | .defer d => h' = h ∧ ∃ x, r = .ok (.defer x) w ∧ DR h.next m ν d x
  | .enter f args => h' = h ∧ ∃ A, r = .ok (.enter f A) w ∧ Rs h.next m ν args A.toList
  | .round l args => h' = h ∧ l < h.next ∧ ∃ A, r = (Instr.yield (m l).1 A).run P w ∧ Rs h.next m ν args A.toList
theorem RunOK.vs {a : AV} {h' : H} {r : Result Value} {nx : Nx} (e : nx = .val a) (hv : VS ν m h w a h' r) : RunOK P TT ν m h w h' (r.andThen fun x w' => .ok (.value x) w') nx := by
  subst e
  obtain ⟨x, m', w', rfl, hp, hr⟩ := hv
  exact .inl ⟨x, m', w', rfl, hp, hr⟩
theorem Rs_i1 {n : Nat} {vs : List AV} {x : Value} (hr : Rs n m ν vs [x]) : ∃ v, vs = [v] ∧ R n m ν v x := by
  cases vs with
  | nil => rw [Rs_nil] at hr; cases hr
  | cons v vs =>
    obtain ⟨y, ys, e, h1, h2⟩ := Rs_cons.1 hr
    cases e
    have := h2.len
    cases vs with
    | nil => exact ⟨v, rfl, h1⟩
    | cons => simp at this
theorem Rs_c {n : Nat} {vs : List AV} {x : Value} {xs : List Value} (hr : Rs n m ν vs (x :: xs)) : ∃ v us, vs = v :: us ∧ R n m ν v x ∧ Rs n m ν us xs := by
  cases vs with
  | nil => rw [Rs_nil] at hr; cases hr
  | cons v vs =>
    obtain ⟨y, ys, e, h1, h2⟩ := Rs_cons.1 hr
    cases e
    exact ⟨v, vs, rfl, h1, h2⟩
theorem Rs_i0 {n : Nat} {vs : List AV} (hr : Rs n m ν vs []) : vs = [] := by
  cases vs with
  | nil => rfl
  | cons v vs => obtain ⟨y, ys, e, _⟩ := Rs_cons.1 hr; cases e
theorem Rs_i2 {n : Nat} {vs : List AV} {x y : Value} (hr : Rs n m ν vs [x, y]) : ∃ v u, vs = [v, u] ∧ R n m ν v x ∧ R n m ν u y := by
  obtain ⟨v, us, rfl, h1, h2⟩ := Rs_c hr
  obtain ⟨u, rfl, h3⟩ := Rs_i1 h2
  exact ⟨v, u, rfl, h1, h3⟩
theorem Rs_i3 {n : Nat} {vs : List AV} {x y z : Value} (hr : Rs n m ν vs [x, y, z]) : ∃ v u t, vs = [v, u, t] ∧ R n m ν v x ∧ R n m ν u y ∧ R n m ν t z := by
  obtain ⟨v, us, rfl, h1, h2⟩ := Rs_c hr
  obtain ⟨u, t, rfl, h3, h4⟩ := Rs_i2 h2
  exact ⟨v, u, t, rfl, h1, h3, h4⟩
theorem call_s (hok : OkSum P sm TT ν) {f : Nat} {args : List AV} {nx : Nx} {h' : H} {A : Array Value} (he : callA P sm h f args = some (nx, h')) (hs : SR m ν h w) (hr : Rs h.next m ν args A.toList) :
    RunOK P TT ν m h w h' ((callFunc f A).run P w) nx := by
  unfold callA at he
  split at he
  · rename_i g hg
    obtain ⟨r, hr', he⟩ := map_eq he
    cases he
    exact hok.sum f g hg args h r.1 r.2 hr' m w A hs hr
  · rename_i hg
    obtain ⟨fn, hf, he⟩ := bnd_eq he
    rw [bcond] at he
    split at he
    · rename_i hb
      cases he
      exact ⟨rfl, A, hok.body f fn hf hb A w, hr⟩
    · cases he
theorem target_s (hok : OkSum P sm TT ν) {f : AV} {args : List AV} {nx : Nx} {h' : H} {v : Value} {A : Array Value} (he : targetA P sm h f args = some (nx, h')) (hs : SR m ν h w) (hf : R h.next m ν f v) (hr : Rs h.next m ν args A.toList) :
    RunOK P TT ν m h w h' ((do let d ← Deferred.ofValue v A; invoke d.target d.args : Sem Next).run P w) nx := by
  unfold targetA at he
  split at he
  · rename_i f first cap
    simp only [R] at hf
    obtain ⟨g, a, c, rfl, hg, h1, h2⟩ := hf
    simp only [Fm] at hg
    subst hg
    simp only [Deferred.ofValue, Sem.run_bind, Sem.run_pure, Result.andThen_ok, invoke]
    exact call_s hok he hs (by rw [Array.toList_append, Array.toList_append, List.append_assoc]; exact h1.app (hr.app h2))
  · rename_i l
    simp only [R] at hf
    obtain ⟨g, a, c, rfl, hg, h1, h2⟩ := hf
    simp only [Fm] at hg
    obtain ⟨hl, rfl⟩ := hg
    cases he
    rw [Rs_nil] at h1
    simp only [Deferred.ofValue, Sem.run_bind, Sem.run_pure, Result.andThen_ok, invoke]
    refine ⟨rfl, hl, a ++ A, rfl, ?_⟩
    rw [Array.toList_append, h1]
    exact hr
  · cases he
end
end Go.Proofs.YtemdgilifnhdpaaGreatDoor.Ev
