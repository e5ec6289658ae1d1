/- Appending a number's groups onto a literal of one group: nil, empty or not. -/
import Derived.Test.YtkihodadopcioaaGreatDoorKeep
import Derived.OwnWalkIn
namespace Go.Proofs.YtkihodadopcioaaGreatDoor
open Go.RowKit Go.Shelf

/-- What lies behind an append: the groups l. -/
structure LitRow (base : Nat) (w : World) (a : Option Addr) (cap : Nat) (l : List Nat) : Prop where
  cap : l.length ≤ cap
  row : Row w.heap.size w a l
  frs : Frs base a l

theorem run_append_lit (w : World) (base : Nat) (ty g d R rc B : Nat) (ra : Option Addr) (hown : w.ownsRow base 3 1 (.slice (some ⟨g, 0, none⟩) 1 1) 1 [dv d]) (hr : Row B w ra (Num.grp R)) (hlen : Num.gl R ≤ 10000000) (hbase : base ≤ w.heap.size) :
    ∃ a' cap' w', (Builtin.append_ #[92, 92] ty #[.slice (some ⟨g, 0, none⟩) 1 1, .slice ra (Num.gl R) rc]).run Tryz.prog w = .ok (.slice a' (d :: Num.grp R).length cap') w' ∧
      LitRow base w' a' cap' (d :: Num.grp R) ∧ w.grownBy w' (some g) := by
  obtain ⟨i0, hi, hz0, hz1, hz2⟩ := info_parts int_info
  rcases ra with _ | ad
  · have hR : Num.grp R = [] := by
      by_cases h : Num.grp R = []
      · exact h
      · obtain ⟨b, o, e, _⟩ := hr h
        cases e
    have hg : Num.gl R = 0 := by unfold Num.gl; rw [hR]; rfl
    obtain ⟨a, cap, e, hc, hrw, hf⟩ := row_of_own (l := [d]) hown
    injection e with e1 e2 e3
    subst e1 e3
    rw [hg, hR]
    refine ⟨_, _, w, ?_, ⟨hc, hrw, hf⟩, World.grownBy.refl w _⟩
    obtain ⟨_, h0 | ⟨g', cap, cur, e, _, _, hnc, _⟩⟩ := hown
    · cases h0.1
    · simp [Builtin.append_, run_underlying Tryz.underlying92, sizeOf, typeInfo, hi, Builtin.lenOf, Builtin.firstCells, storeCells]
  · obtain ⟨v', w', hrun, h2, h3, _⟩ := run_append_own (P := Tryz.prog) w base 92 ty 3 i0 (.int .i64 0) 1 8 Tryz.underlying92 hi hz0 hz1 hz2 rfl (by decide) _ 1 [dv d] hown ad (Num.gl R) rc ((Num.grp R).map dv) (by simp [Num.gl]) (row_news hr) (news_one _) (by unfold maxLen; omega) (by omega) hbase
    have h2' : w'.ownsRow base 3 1 v' (1 + Num.gl R) ((d :: Num.grp R).map dv) := by simpa using h2
    obtain ⟨a, cap, e, hc, hrw, hf⟩ := row_of_own h2'
    subst e
    exact ⟨a, cap, w', hrun, ⟨hc, hrw, hf⟩, h3⟩

/-- .. as a law for the fenced walk. -/
theorem wpListIn_append_lit {F : Fence} {n : Nat} (w : World) {ops : Array Oper} {rest : List Oper} {o : Oper} {a : Act} {Q : Exit → Act → World → Prop}
    (hg : o.guard = none) (s x : Operand) (hop : o.op = Op.call { callee := Callee.builtin Builtin.append, args := #[s, x], argTypes := #[92, 92] })
    (base g d R rc B : Nat) (ra : Option Addr) (hs : a.eval s = .slice (some ⟨g, 0, none⟩) 1 1) (hx : a.eval x = .slice ra (Num.gl R) rc) (hown : w.ownsRow base 3 1 (.slice (some ⟨g, 0, none⟩) 1 1) 1 [dv d]) (hr : Row B w ra (Num.grp R)) (hlen : Num.gl R ≤ 10000000) (hbase : base ≤ w.heap.size)
    (hK : ∀ a' cap' w', LitRow base w' a' cap' (d :: Num.grp R) → w.grownBy w' (some g) → wpListIn F n Tryz.prog ops Q rest (a.put o.dst (.slice a' (d :: Num.grp R).length cap')) w') :
    wpListIn F n Tryz.prog ops Q (o :: rest) a w := by
  refine wpListIn_plain hg fun K hK' => ?_
  obtain ⟨a', cap', w', hrun, r1, r2⟩ := run_append_lit w base o.type g d R rc B ra hown hr hlen hbase
  unfold Oper.wpIn
  refine ⟨?_, ?_⟩
  · simp [Oper.about, hop, resolve, Target.leads, Sem.run_pure]
  · rw [Oper.semAt_plain F _ _ (by rw [hop]; intro c hc'; cases hc')]
    simp only [execOp, hop, resolve, invoke, builtin, Sem.run_bind, Sem.run_pure, Result.andThen_ok, List.map_toArray, List.map_cons, List.map_nil, hs, hx, hrun]
    exact hK' _ _ (hK a' cap' w' r1 r2)
end Go.Proofs.YtkihodadopcioaaGreatDoor
