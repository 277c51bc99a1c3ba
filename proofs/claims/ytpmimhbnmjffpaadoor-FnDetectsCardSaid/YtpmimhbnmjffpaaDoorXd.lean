/- A row of bytes that a constant's conversion has marked, told as a row that is read, and an append onto it while it is full; no condition beyond those that each lemma names. -/
import Derived.Test.YtpmimhbnmjffpaaDoorXw
namespace Go.Proofs.YtpmimhbnmjffpaaDoorW.PrintWords.Kd
open Go.RowKit Go.Proofs.YtpmimhbnmjffpaaDoor.Xw
section
variable {P : Program} {ops : Array Oper} {rest : List Oper} {o : Oper} {a : Act} {Q : Exit → Act → World → Prop}
theorem marked_at (W : World) (cs : Array Value) (e : TypeId) : ((W.alloc (.cells cs e)).freeze ⟨W.heap.size, cs.size, none⟩ 1).heap[W.heap.size]? = some (.cells cs e (cs.size, cs.size + 1)) := by
  simp [World.freeze, World.alloc, -World.alloc_eq]
  rw [Array.getElem_modify_self]
  simp
theorem marked_old (W : World) (cs : Array Value) (e : TypeId) (j : Nat) (hj : j < W.heap.size) : ((W.alloc (.cells cs e)).freeze ⟨W.heap.size, cs.size, none⟩ 1).heap[j]? = W.heap[j]? := by
  have h1 : W.heap.size ≠ j := by omega
  simp [World.freeze, World.alloc, -World.alloc_eq, Array.getElem?_modify, Array.getElem?_push, h1, Ne.symm h1]
theorem marked_size (W : World) (cs : Array Value) (e : TypeId) : ((W.alloc (.cells cs e)).freeze ⟨W.heap.size, cs.size, none⟩ 1).heap.size = W.heap.size + 1 := by
  simp [World.freeze, World.alloc, -World.alloc_eq]
theorem marked_below (W : World) (cs : Array Value) (e : TypeId) : Below W.heap.size W ((W.alloc (.cells cs e)).freeze ⟨W.heap.size, cs.size, none⟩ 1) := by
  refine ⟨?_, ?_, ?_, by rw [marked_size]; omega, fun k hk => marked_old W cs e k hk⟩ <;> simp [World.freeze, World.alloc, -World.alloc_eq]
theorem reads_nums {W : World} {g : Nat} {xs : List Int} {fr : Nat × Nat} {e : TypeId} (hm : xs.length ≤ 9223372036854775807) (h : W.heap[g]? = some (.cells (xs.map (Value.int .u8)).toArray e fr)) : (Kd.int .u8).C W (some ⟨g, 0, none⟩) xs.length xs := by
  refine Kd.C_of_reads (d := (0 : Int)) (h1 := fun _ => rfl) ⟨rfl, hm, fun _ => ⟨_, rfl, fun i hi => ?_⟩⟩
  have : W.cell? ⟨g, i, none⟩ = some (.int .u8 (xs.getD i 0)) := by
    simp [World.cell?, h, List.getD_eq_getElem?_getD, hi]
  by_cases h0 : i = 0
  · subst h0; simpa [Addr.add] using this
  · simpa [Addr.add, h0] using this
theorem reads_front {W : World} {g : Nat} {xs : List Int} {cs : Array Value} {fr : Nat × Nat} {e : TypeId} (hm : xs.length ≤ 9223372036854775807) (h : W.heap[g]? = some (.cells cs e fr)) (hx : ∀ i, i < xs.length → cs[i]? = some (.int .u8 (xs.getD i 0))) : (Kd.int .u8).C W (some ⟨g, 0, none⟩) xs.length xs := by
  refine Kd.C_of_reads (d := (0 : Int)) (h1 := fun _ => rfl) ⟨rfl, hm, fun _ => ⟨_, rfl, fun i hi => ?_⟩⟩
  have : W.cell? ⟨g, i, none⟩ = some (.int .u8 (xs.getD i 0)) := by
    simp only [World.cell?, h]
    exact hx i hi
  by_cases h0 : i = 0
  · subst h0; simpa [Addr.add] using this
  · simpa [Addr.add, h0] using this
theorem conv_new {W : World} (x : Operand) (st e : TypeId) (xs : List Int) (c : Nat) (cs : Array Value) (hcs : cs = (xs.map (Value.int .u8)).toArray)
    (hgd : o.guard = none) (ho : o.op = .convert st st x) (hst : P.underlying st = some (.slice e)) (he : P.underlying e = some (.int .u8)) (hx : a.eval x = .slice (some ⟨W.heap.size, 0, none⟩) xs.length c) (hc : xs.length ≤ c) (hm : xs.length ≤ 9223372036854775807)
    (h : ∀ w1, Below W.heap.size W w1 → Kd.V (Kd.int .u8) e w1 W.heap.size (fun k => W.heap.size ≤ k) (.slice (some ⟨W.heap.size, 0, none⟩) xs.length c) xs → wpList P ops Q rest (a.put o.dst (.slice (some ⟨W.heap.size, 0, none⟩) xs.length c)) w1) :
    wpList P ops Q (o :: rest) a (W.alloc (.cells cs e)) := by
  have hsh : (W.alloc (.cells cs e)).shape? W.heap.size = some (e, cs.size) := by simp [World.shape?, World.alloc, -World.alloc_eq]
  have hr : (convert st st (.slice (some ⟨W.heap.size, 0, none⟩) xs.length c)).run P (W.alloc (.cells cs e)) = .ok (.slice (some ⟨W.heap.size, 0, none⟩) xs.length c) ((W.alloc (.cells cs e)).freeze ⟨W.heap.size, cs.size, none⟩ 1) := by
    simp [convert, run_underlying hst, run_underlying he, markStringish, hsh, Result.andThen, -World.alloc_eq]
  have hat := marked_at W cs e
  refine wpList_plain hgd fun K hK => ?_
  unfold Oper.wp execOp
  simp only [ho, hx, Sem.run_bind, Sem.run_pure, Result.andThen_ok, hr]
  refine hK _ _ (h _ (marked_below W cs e) ⟨_, c, rfl, hc, fun W' hW => ?_⟩)
  have h2 := hW W.heap.size (Nat.le_refl _) (by rw [marked_size]; omega)
  rw [hat, hcs] at h2
  exact reads_nums hm h2
theorem app_full {w0 W : World} (s x : Operand) (t e : TypeId) (g n m c : Nat) (A : Option Addr) (xs ys : List Int) (base : Nat) (okv : Nat → Prop)
    (hgd : o.guard = none) (ho : o.op = .call { callee := .builtin .append, args := #[s, x], argTypes := #[t, t] })
    (ht : P.underlying t = some (.slice e)) (hinfo : (P.info? e).map (fun i => (i.zero, i.size, i.bytes)) = some (some (.int .u8 0), 1, 1))
    (hs : a.eval s = .slice (some ⟨g, 0, none⟩) n n) (hx : a.eval x = .slice A m c)
    (HV : Kd.V (Kd.int .u8) e W base okv (.slice (some ⟨g, 0, none⟩) n n) xs) (hokv : ∀ k, okv k → w0.heap.size ≤ k) (HR : (Kd.int .u8).C W A m ys) (HB : Below w0.heap.size w0 W) (hl : xs.length + m ≤ 140737488355328)
    (h : ∀ v1 w1, Kd.V (Kd.int .u8) e w1 w0.heap.size (fun k => w0.heap.size ≤ k) v1 (xs ++ ys) → Below w0.heap.size w0 w1 → wpList P ops Q rest (a.put o.dst v1) w1) :
    wpList P ops Q (o :: rest) a W := by
  obtain ⟨i0, hi, hzz⟩ := Option.map_eq_some_iff.1 hinfo
  simp only [Prod.mk.injEq] at hzz
  obtain ⟨hz0, hz1, hz2⟩ := hzz
  obtain ⟨hn, hnc, hF⟩ := Kd.V_at HV
  have hm : ys.length = m := HR.1
  have fin : ∀ v1 w1, (Builtin.append_ #[t, t] o.type #[.slice (some ⟨g, 0, none⟩) n n, .slice A m c]).run P W = .ok v1 w1 → Kd.V (Kd.int .u8) e w1 w0.heap.size (fun k => w0.heap.size ≤ k) v1 (xs ++ ys) → Below w0.heap.size w0 w1 → wpList P ops Q (o :: rest) a W := by
    intro v1 w1 hr1 hv hb
    refine wpList_plain hgd fun K hK => ?_
    unfold Oper.wp execOp
    simp only [ho, resolve, invoke, builtin, Sem.run_bind, Sem.run_pure, Result.andThen_ok, List.map_toArray, List.map_cons, List.map_nil, hs, hx, hr1]
    exact hK _ _ (h v1 w1 hv hb)
  rcases Nat.eq_zero_or_pos m with h0 | h0
  · subst h0
    obtain rfl : ys = [] := List.eq_nil_of_length_eq_zero hm
    refine fin (.slice (some ⟨g, 0, none⟩) n n) W ?_ ?_ HB
    · rcases A with _ | ad <;> simp [Builtin.append_, run_underlying ht, sizeOf, typeInfo, hi, Builtin.lenOf, Builtin.firstCells, storeCells, loadCells, loadCellsFrom]
    · rw [List.append_nil]
      exact Kd.V_map (Kd.V_mono HV hokv) (fun _ hf => hf)
  · obtain ⟨ad, rfl, hc⟩ := HR.2.2 h0
    have rx := Kd.F_now hF
    have hnm : ∀ {B : Option Addr} {q : Nat} {zs : List Int}, (Kd.int .u8).C W B q zs → ∀ {b : Addr}, B = some b → ∀ j v, (zs.map (Value.int .u8))[j]? = some v → W.cell? (b.add j) = some v := by
      intro B q zs hC b hB j v hj
      obtain ⟨hjl, hjv⟩ := List.getElem?_eq_some_iff.1 hj
      rw [List.length_map] at hjl
      obtain ⟨b2, e2, h2⟩ := Kd.at_int hC (j : Int) (by omega) (by have := hC.1; omega)
      rw [hB] at e2
      obtain rfl := Option.some.inj e2
      rw [Int.toNat_natCast] at h2
      rw [h2, ← hjv]
      simp [rd, List.getD_eq_getElem?_getD, hjl]
    have hr := Go.run_append_grow (P := P) W t o.type e i0 (.int .u8 0) ht hi hz0 ⟨g, 0, none⟩ n n (xs.map (Value.int .u8)) (by rw [List.length_map, hz1]; omega) (hnm rx rfl) ad m c (ys.map (Value.int .u8)) (by rw [List.length_map, hz1]; omega) (hnm HR rfl) (by omega) (by omega) (by rw [hz2]; exact growslice_fits (by omega) (by omega))
    have hlen : (xs ++ ys).length = n + m := by rw [List.length_append]; omega
    refine fin _ _ hr ⟨some ⟨W.heap.size, 0, none⟩, _, by rw [hlen], by rw [hlen]; exact grownCap_ge W (n + m) n e, fun W' hW => ?_⟩ (below_alloc (below_drew1 HB) _)
    have h2 := (hW W.heap.size HB.size (by simp [World.alloc, World.drew, -World.alloc_eq, -World.drew_eq])).trans (heap_alloc_new W.drew _)
    refine reads_front (by omega) h2 (fun i hi2 => ?_)
    have e1 : (xs.map (Value.int .u8)).toArray ++ (ys.map (Value.int .u8)).toArray = ((xs ++ ys).map (Value.int .u8)).toArray := by simp
    rw [e1, Array.getElem?_append_left (by simpa using hi2), List.getElem?_toArray, List.getElem?_map, List.getD_eq_getElem?_getD, List.getElem?_eq_getElem hi2]
    rfl
end
end Go.Proofs.YtpmimhbnmjffpaaDoorW.PrintWords.Kd
