/- Pd: how deep and how great terms and statements are. -/
import Derived.Test.YtmgedefdjobgdaaGreatSD
namespace Go.Lz
set_option linter.unusedVariables false
set_option linter.unusedSimpArgs false
mutual
def depE : api_Expr → Nat
  | ⟨_, _, _, _, args⟩ => depEs args + 1
def depEs : List api_Expr → Nat
  | [] => 0
  | e :: es => max (depE e) (depEs es)
end
mutual
def depS : api_Stmt → Nat
  | ⟨_, _, target, value, args, body, els⟩ => max (max (depE target) (depE value)) (max (depEs args) (max (depSs body) (depSs els))) + 1
def depSs : List api_Stmt → Nat
  | [] => 0
  | e :: es => max (depS e) (depSs es)
end
theorem depE_eq (e : api_Expr) : depE e = depEs e.Args + 1 := by cases e; rw [depE]
theorem depS_eq (s : api_Stmt) : depS s = max (max (depE s.Target) (depE s.Value)) (max (depEs s.Args) (max (depSs s.Body) (depSs s.Else))) + 1 := by cases s; rw [depS]
theorem depEs_app : ∀ {l m : List api_Expr}, depEs (l ++ m) = max (depEs l) (depEs m)
  | [], m => by simp [depEs]
  | e :: es, m => by rw [List.cons_append, depEs, depEs, depEs_app (l := es)]; omega
theorem depSs_app : ∀ {l m : List api_Stmt}, depSs (l ++ m) = max (depSs l) (depSs m)
  | [], m => by simp [depSs]
  | e :: es, m => by rw [List.cons_append, depSs, depSs, depSs_app (l := es)]; omega
theorem depEs_mem : ∀ {l : List api_Expr} {x : api_Expr}, x ∈ l → depE x ≤ depEs l
  | e :: es, x, hx => by
    rw [depEs]
    rcases List.mem_cons.1 hx with rfl | hx
    · omega
    · have := depEs_mem hx; omega
theorem depSs_mem : ∀ {l : List api_Stmt} {x : api_Stmt}, x ∈ l → depS x ≤ depSs l
  | e :: es, x, hx => by
    rw [depSs]
    rcases List.mem_cons.1 hx with rfl | hx
    · omega
    · have := depSs_mem hx; omega
mutual
def szE : api_Expr → Nat
  | ⟨_, _, _, _, args⟩ => szEs args + 1
def szEs : List api_Expr → Nat
  | [] => 0
  | e :: es => szE e + szEs es
end
theorem szE_eq (e : api_Expr) : szE e = szEs e.Args + 1 := by cases e; rw [szE]
theorem szEs_app : ∀ {l m : List api_Expr}, szEs (l ++ m) = szEs l + szEs m
  | [], m => by simp [szEs]
  | e :: es, m => by rw [List.cons_append, szEs, szEs, szEs_app (l := es)]; omega
theorem szEs_mem : ∀ {l : List api_Expr} {x : api_Expr}, x ∈ l → szE x ≤ szEs l
  | e :: es, x, hx => by
    rw [szEs]
    rcases List.mem_cons.1 hx with rfl | hx
    · omega
    · have := szEs_mem hx; omega
end Go.Lz
