/- A scope that holds one label, jumped to by gotos from ahead of it alone: the walk goes on behind the label where a goto is taken. Over any program. -/
import Derived.ScopeJumps
import Derived.WalkKit
namespace Go.Proofs.Ytkmcakneceagpaa

theorem wp_scope_once {P : Program} {a : Act} {w : World} {Q : Exit → Act → World → Prop} {c rest : Code} (l : Nat) (hf : findLabel c l = some rest)
    (first : c.wp P (Exit.jump l (fun a' w' => rest.wp P (Exit.jump l (fun _ _ => False) Q) a' w') Q) a w) : (Code.scope c).wp P Q a w :=
  wp_scope_jumps l (fun a' w' => rest.wp P (Exit.jump l (fun _ _ => False) Q) a' w') (fun _ _ => 0) hf first (fun a w hJ => by
    intro b k cs
    obtain ⟨e, a', w', hq, har⟩ := hJ b k cs
    refine ⟨e, a', w', ?_, har⟩
    cases e with
    | goto l' => exact hq.2.elim
    | _ => exact hq)
theorem jump_ret {l : Nat} {J : Act → World → Prop} {Q : Exit → Act → World → Prop} {a : Act} {w : World} : Exit.jump l J Q .ret a w = Q .ret a w := rfl
theorem jump_goto {l : Nat} {J : Act → World → Prop} {Q : Exit → Act → World → Prop} {a : Act} {w : World} (h : J a w) : Exit.jump l J Q (.goto l) a w := ⟨rfl, h⟩
theorem jump_normal {l : Nat} {J : Act → World → Prop} {Q : Exit → Act → World → Prop} {a : Act} {w : World} : Exit.jump l J Q .normal a w = Q .normal a w := rfl
end Go.Proofs.Ytkmcakneceagpaa
