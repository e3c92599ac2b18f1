/-
  LIFT (B): THE OPERATIONS THAT ARE TAME.
-/
import Derived.Test.YtakjhhkffiffdaaLiftA
set_option linter.unusedVariables false
set_option linter.unusedSimpArgs false
namespace Go.Proofs.YtakjhhkffiffdaaLift
open Go.Conc

variable {P : Program}

abbrev Any {α : Type} : α → Prop := fun _ => True

theorem t_pure {α : Type} {φ : α → Prop} (a : α) (h : φ a) : Tame P φ (pure a : Sem α) := h
theorem t_stuck {α : Type} {φ : α → Prop} (s : String) : Tame P φ (stuck s : Sem α) := trivial
theorem t_unsup {α : Type} {φ : α → Prop} (u : Unsupported) (h : ∀ g, u ≠ .initOrder g) : Tame P φ (unsupported u : Sem α) := h
theorem t_panic {α : Type} {φ : α → Prop} (v : Value) : Tame P φ (goPanic v : Sem α) := trivial
theorem t_program {α : Type} {φ : α → Prop} {f : Program → Sem α} (h : Tame P φ (f P)) : Tame P φ (program >>= f) := h
theorem t_bind {α β : Type} {ψ : β → Prop} {s : Sem α} {f : α → Sem β} (hs : Tame P Any s) (hf : ∀ a, Tame P ψ (f a)) : Tame P ψ (s >>= f) := hs.bind fun a _ => hf a
theorem t_any {α : Type} {s : Sem α} {φ : α → Prop} (h : Tame P φ s) : Tame P Any s := h.mono fun _ _ => trivial

theorem t_load (a : Addr) (m : Mode) : Tame P Any (load a m) := fun _ => trivial
theorem t_store (a : Addr) (v : Value) (m : Mode) : Tame P Any (store a v m) := trivial
theorem t_shape (r : Nat) : Tame P Any (shape r) := fun _ => trivial
theorem t_frozen (a : Addr) : Tame P Any (frozen a) := fun _ => trivial
theorem t_getObj {α : Type} {φ : α → Prop} (r : Nat) {f : Obj → Sem α} (h : ∀ o, Tame P φ (f o)) (hp : ∀ c t, f (.pending c t) = f away) : Tame P φ (getObj r >>= f) := ⟨h, hp⟩
theorem t_choose (q : Question) : Tame P Any (choose q) := fun _ => trivial
theorem t_newObj (o : Obj) (h : ∀ c t, o ≠ .pending c t) : Tame P Any (newObj o) := ⟨h, fun _ => trivial⟩
theorem t_askRoom (n : Nat) : Tame P Any (askRoom n) := by
  unfold askRoom; split
  · exact ⟨rfl, trivial⟩
  · exact trivial

theorem t_underlying (t : TypeId) : Tame P (fun d => P.underlying t = some d) (underlying t) := by
  unfold underlying
  refine t_program ?_
  split
  · rename_i d h; exact h
  · exact t_stuck _
theorem t_typeInfo (t : TypeId) : Tame P Any (typeInfo t) := by
  unfold typeInfo
  refine t_program ?_
  split
  · exact trivial
  · exact t_stuck _
theorem t_underlying' (t : TypeId) : Tame P Any (underlying t) := t_any (t_underlying t)
theorem t_sizeOf (t : TypeId) : Tame P Any (sizeOf t) := by
  unfold sizeOf; exact t_bind (t_typeInfo t) fun _ => trivial
theorem t_zeroValue (t : TypeId) : Tame P Any (zeroValue t) := by
  unfold zeroValue
  refine t_bind (t_typeInfo t) fun i => ?_
  split
  · exact trivial
  · exact t_unsup _ (by simp)
theorem t_isAgg (t : TypeId) : Tame P Any (isAgg t) := by
  unfold isAgg
  refine t_bind (t_underlying' t) fun i => ?_
  split <;> exact trivial
theorem t_loadCellsFrom (a : Addr) : ∀ (n i : Nat) (acc : Array Value), Tame P Any (loadCellsFrom a i n acc)
  | 0, _, _ => trivial
  | n + 1, i, acc => by
    unfold loadCellsFrom
    exact t_bind (t_load _ _) fun v => t_loadCellsFrom a n (i + 1) _
theorem t_loadCells (a : Addr) (n : Nat) : Tame P Any (loadCells a n) := t_loadCellsFrom a n 0 #[]
theorem t_storeCells (a : Addr) : ∀ (vs : List Value) (i : Nat), Tame P Any (storeCells a vs i)
  | [], _ => by unfold storeCells; exact trivial
  | v :: r, i => by unfold storeCells; exact t_bind (t_store _ _ _) fun _ => t_storeCells a r (i + 1)
theorem t_loadVar (t : TypeId) (a : Addr) : Tame P Any (loadVar t a) := by
  unfold loadVar
  refine t_bind (t_isAgg t) fun b => ?_
  split
  · exact t_bind (t_sizeOf t) fun n => t_bind (t_loadCells a n) fun _ => trivial
  · exact t_load _ _
theorem t_storeVar (t : TypeId) (a : Addr) (v : Value) : Tame P Any (storeVar t a v) := by
  unfold storeVar
  refine t_bind (t_sizeOf t) fun n => ?_
  split
  · exact t_bind (t_stuck _) fun _ => t_storeCells _ _ _
  · exact t_storeCells _ _ _
theorem t_newRow (t : TypeId) (c : Array Value) : Tame P Any (newRow t c) := by
  unfold newRow; exact t_bind (t_newObj _ (by simp)) fun _ => trivial
theorem t_newVar (t : TypeId) (v : Value) : Tame P Any (newVar t v) := t_newRow _ _
theorem t_sureAddr (v : Value) : Tame P Any (Instr.sureAddr v) := by
  unfold Instr.sureAddr; split
  · exact trivial
  · exact t_stuck _
theorem t_asIntOf (v : Value) : Tame P Any (asIntOf v) := by
  unfold asIntOf; split
  · exact trivial
  · exact t_unsup _ (by simp)
  · exact t_stuck _
theorem t_asInt (v : Value) : Tame P Any (asInt v) := by
  unfold asInt; exact t_bind (t_asIntOf v) fun _ => trivial
theorem t_asBool (v : Value) : Tame P Any (asBool v) := by
  unfold asBool; split
  · exact trivial
  · exact t_stuck _
theorem t_elemOf (t : TypeId) : Tame P Any (elemOf t) := by
  unfold elemOf
  refine t_bind (t_underlying' t) fun d => ?_
  split
  · exact trivial
  · exact t_stuck _
theorem t_runtimePanic {α : Type} {φ : α → Prop} (e : RuntimeError) : Tame P φ (runtimePanic e : Sem α) := by
  unfold runtimePanic
  refine t_program ?_
  cases e with
  | typeAssertion i c a m => exact t_bind (t_elemOf _) fun _ => t_bind (t_newVar _ _) fun _ => t_panic _
  | panicNil => exact t_bind (t_elemOf _) fun _ => t_bind (t_newVar _ _) fun _ => t_panic _
  | _ => exact t_panic _
theorem t_boundsPanic {α : Type} {φ : α → Prop} (k : IntKind) (x y : Int) (c : BoundsCode) : Tame P φ (boundsPanic k x y c : Sem α) := by
  unfold boundsPanic
  dsimp only
  split
  · refine t_bind ?_ fun _ => t_runtimePanic _
    show Tame P Any ((choose _).bind _)
    exact Tame.bind' (t_choose _) fun _ _ => trivial
  · exact t_bind (t_pure _ trivial) fun _ => t_runtimePanic _
theorem t_viewAt (r : Nat) : Tame P Any (viewAt r) := by
  unfold viewAt
  refine t_bind (t_shape r) fun b => ?_
  split
  · exact trivial
  · refine t_getObj r (fun o => ?_) (fun _ _ => rfl)
    split <;> exact trivial
theorem t_numberAt (r : Nat) : Tame P Any (numberAt r) := by
  unfold numberAt
  refine t_bind (t_shape r) fun b => ?_
  split
  · exact trivial
  · refine t_getObj r (fun o => ?_) (fun _ _ => rfl)
    split <;> exact trivial
theorem t_noView (a : Addr) : Tame P Any (noView a) := by
  unfold noView
  refine t_bind (t_viewAt _) fun b => ?_
  split
  · exact t_unsup _ (by simp)
  · exact trivial
theorem t_behindNumber (n : Addr) : Tame P Any (behindNumber n) := by
  unfold behindNumber; exact t_bind (t_numberAt _) fun _ => trivial
theorem t_asNumber (a : Addr) (l : Bool) : Tame P Any (asNumber a l) := by
  unfold asNumber; exact t_bind (t_newObj _ (by simp)) fun _ => trivial
theorem t_byteOf (a : Addr) : Tame P Any (byteOf a) := by
  unfold byteOf
  split
  · exact trivial
  · refine t_program (t_bind (t_noView a) fun _ => t_bind (t_shape _) fun x => ?_)
    split
    · dsimp only
      split
      · exact trivial
      · split
        · exact trivial
        · exact t_stuck _
    · exact t_stuck _
theorem t_partAt (a : Addr) (c b : Nat) : Tame P Any (partAt a c b) := by
  unfold partAt; exact t_bind (t_byteOf _) fun _ => t_bind (t_byteOf _) fun _ => trivial
theorem t_fieldPlace (a : Addr) (f : Field) : Tame P Any (fieldPlace a f) := by
  unfold fieldPlace
  refine t_bind (t_sizeOf _) fun n => ?_
  split
  · exact t_partAt _ _ _
  · exact trivial

theorem t_mapM_list {α β : Type} (f : α → Sem β) (hf : ∀ a, Tame P Any (f a)) : ∀ l : List α, Tame P Any (l.mapM f)
  | [] => by rw [List.mapM_nil]; exact trivial
  | a :: l => by rw [List.mapM_cons]; exact t_bind (hf a) fun _ => t_bind (t_mapM_list f hf l) fun _ => trivial

theorem t_mapM {α β : Type} (f : α → Sem β) (hf : ∀ a, Tame P Any (f a)) (l : Array α) : Tame P Any (l.mapM f) := by
  rw [Array.mapM_eq_mapM_toList]
  show Tame P Any ((l.toList.mapM f).bind _)
  exact Tame.bind' (t_mapM_list f hf _) fun _ _ => trivial

/-! ### instructions -/
theorem t_box (t : TypeId) (v : Value) : Tame P Any (Instr.box t v) := by
  unfold Instr.box
  repeat' (first | with_reducible exact t_pure _ trivial | with_reducible exact t_stuck _ | with_reducible exact t_unsup _ (by simp) | with_reducible exact t_runtimePanic _ | with_reducible exact t_boundsPanic _ _ _ _ | with_reducible exact t_panic _ | with_reducible exact t_newVar _ _ | with_reducible exact t_newRow _ _ | with_reducible exact t_typeInfo _ | with_reducible exact t_underlying' _ | with_reducible exact t_sizeOf _ | with_reducible exact t_zeroValue _ | with_reducible exact t_isAgg _ | with_reducible exact t_loadCells _ _ | with_reducible exact t_loadVar _ _ | with_reducible exact t_storeVar _ _ _ | with_reducible exact t_storeCells _ _ _ | with_reducible exact t_sureAddr _ | with_reducible exact t_asIntOf _ | with_reducible exact t_asInt _ | with_reducible exact t_asBool _ | with_reducible exact t_elemOf _ | with_reducible exact t_viewAt _ | with_reducible exact t_numberAt _ | with_reducible exact t_noView _ | with_reducible exact t_behindNumber _ | with_reducible exact t_asNumber _ _ | with_reducible exact t_byteOf _ | with_reducible exact t_partAt _ _ _ | with_reducible exact t_fieldPlace _ _ | with_reducible exact t_askRoom _ | with_reducible exact t_shape _ | with_reducible exact t_frozen _ | with_reducible exact t_choose _ | with_reducible exact t_load _ _ | with_reducible exact t_store _ _ _ | with_reducible refine t_program ?_ | (refine t_mapM _ (fun _ => ?_) _) | with_reducible refine t_getObj _ (fun _ => ?_) (fun _ _ => rfl) | with_reducible refine t_bind ?_ (fun _ => ?_) | split | (dsimp only))
theorem t_build (t : TypeId) (ps : Array (Nat × Value)) : Tame P Any (Instr.build t ps) := by
  unfold Instr.build
  repeat' (first | with_reducible exact t_pure _ trivial | with_reducible exact t_stuck _ | with_reducible exact t_unsup _ (by simp) | with_reducible exact t_runtimePanic _ | with_reducible exact t_boundsPanic _ _ _ _ | with_reducible exact t_panic _ | with_reducible exact t_newVar _ _ | with_reducible exact t_newRow _ _ | with_reducible exact t_typeInfo _ | with_reducible exact t_underlying' _ | with_reducible exact t_sizeOf _ | with_reducible exact t_zeroValue _ | with_reducible exact t_isAgg _ | with_reducible exact t_loadCells _ _ | with_reducible exact t_loadVar _ _ | with_reducible exact t_storeVar _ _ _ | with_reducible exact t_storeCells _ _ _ | with_reducible exact t_sureAddr _ | with_reducible exact t_asIntOf _ | with_reducible exact t_asInt _ | with_reducible exact t_asBool _ | with_reducible exact t_elemOf _ | with_reducible exact t_viewAt _ | with_reducible exact t_numberAt _ | with_reducible exact t_noView _ | with_reducible exact t_behindNumber _ | with_reducible exact t_asNumber _ _ | with_reducible exact t_byteOf _ | with_reducible exact t_partAt _ _ _ | with_reducible exact t_fieldPlace _ _ | with_reducible exact t_askRoom _ | with_reducible exact t_shape _ | with_reducible exact t_frozen _ | with_reducible exact t_choose _ | with_reducible exact t_load _ _ | with_reducible exact t_store _ _ _ | with_reducible refine t_program ?_ | (refine t_mapM _ (fun _ => ?_) _) | with_reducible refine t_getObj _ (fun _ => ?_) (fun _ _ => rfl) | with_reducible refine t_bind ?_ (fun _ => ?_) | split | (dsimp only))
theorem t_buildSlice (t : TypeId) (n : Nat) (ps : Array (Nat × Value)) : Tame P Any (Instr.buildSlice t n ps) := by
  unfold Instr.buildSlice
  repeat' (first | with_reducible exact t_pure _ trivial | with_reducible exact t_stuck _ | with_reducible exact t_unsup _ (by simp) | with_reducible exact t_runtimePanic _ | with_reducible exact t_boundsPanic _ _ _ _ | with_reducible exact t_panic _ | with_reducible exact t_newVar _ _ | with_reducible exact t_newRow _ _ | with_reducible exact t_typeInfo _ | with_reducible exact t_underlying' _ | with_reducible exact t_sizeOf _ | with_reducible exact t_zeroValue _ | with_reducible exact t_isAgg _ | with_reducible exact t_loadCells _ _ | with_reducible exact t_loadVar _ _ | with_reducible exact t_storeVar _ _ _ | with_reducible exact t_storeCells _ _ _ | with_reducible exact t_sureAddr _ | with_reducible exact t_asIntOf _ | with_reducible exact t_asInt _ | with_reducible exact t_asBool _ | with_reducible exact t_elemOf _ | with_reducible exact t_viewAt _ | with_reducible exact t_numberAt _ | with_reducible exact t_noView _ | with_reducible exact t_behindNumber _ | with_reducible exact t_asNumber _ _ | with_reducible exact t_byteOf _ | with_reducible exact t_partAt _ _ _ | with_reducible exact t_fieldPlace _ _ | with_reducible exact t_askRoom _ | with_reducible exact t_shape _ | with_reducible exact t_frozen _ | with_reducible exact t_choose _ | with_reducible exact t_load _ _ | with_reducible exact t_store _ _ _ | with_reducible refine t_program ?_ | (refine t_mapM _ (fun _ => ?_) _) | with_reducible refine t_getObj _ (fun _ => ?_) (fun _ _ => rfl) | with_reducible refine t_bind ?_ (fun _ => ?_) | split | (dsimp only))
theorem t_loadAt (t : TypeId) (v : Value) : Tame P Any (Instr.loadAt t v) := by
  unfold Instr.loadAt
  repeat' (first | with_reducible exact t_pure _ trivial | with_reducible exact t_stuck _ | with_reducible exact t_unsup _ (by simp) | with_reducible exact t_runtimePanic _ | with_reducible exact t_boundsPanic _ _ _ _ | with_reducible exact t_panic _ | with_reducible exact t_newVar _ _ | with_reducible exact t_newRow _ _ | with_reducible exact t_typeInfo _ | with_reducible exact t_underlying' _ | with_reducible exact t_sizeOf _ | with_reducible exact t_zeroValue _ | with_reducible exact t_isAgg _ | with_reducible exact t_loadCells _ _ | with_reducible exact t_loadVar _ _ | with_reducible exact t_storeVar _ _ _ | with_reducible exact t_storeCells _ _ _ | with_reducible exact t_sureAddr _ | with_reducible exact t_asIntOf _ | with_reducible exact t_asInt _ | with_reducible exact t_asBool _ | with_reducible exact t_elemOf _ | with_reducible exact t_viewAt _ | with_reducible exact t_numberAt _ | with_reducible exact t_noView _ | with_reducible exact t_behindNumber _ | with_reducible exact t_asNumber _ _ | with_reducible exact t_byteOf _ | with_reducible exact t_partAt _ _ _ | with_reducible exact t_fieldPlace _ _ | with_reducible exact t_askRoom _ | with_reducible exact t_shape _ | with_reducible exact t_frozen _ | with_reducible exact t_choose _ | with_reducible exact t_load _ _ | with_reducible exact t_store _ _ _ | with_reducible refine t_program ?_ | (refine t_mapM _ (fun _ => ?_) _) | with_reducible refine t_getObj _ (fun _ => ?_) (fun _ _ => rfl) | with_reducible refine t_bind ?_ (fun _ => ?_) | split | (dsimp only))
theorem t_storeAt (t : TypeId) (v x : Value) : Tame P Any (Instr.storeAt t v x) := by
  unfold Instr.storeAt
  repeat' (first | with_reducible exact t_pure _ trivial | with_reducible exact t_stuck _ | with_reducible exact t_unsup _ (by simp) | with_reducible exact t_runtimePanic _ | with_reducible exact t_boundsPanic _ _ _ _ | with_reducible exact t_panic _ | with_reducible exact t_newVar _ _ | with_reducible exact t_newRow _ _ | with_reducible exact t_typeInfo _ | with_reducible exact t_underlying' _ | with_reducible exact t_sizeOf _ | with_reducible exact t_zeroValue _ | with_reducible exact t_isAgg _ | with_reducible exact t_loadCells _ _ | with_reducible exact t_loadVar _ _ | with_reducible exact t_storeVar _ _ _ | with_reducible exact t_storeCells _ _ _ | with_reducible exact t_sureAddr _ | with_reducible exact t_asIntOf _ | with_reducible exact t_asInt _ | with_reducible exact t_asBool _ | with_reducible exact t_elemOf _ | with_reducible exact t_viewAt _ | with_reducible exact t_numberAt _ | with_reducible exact t_noView _ | with_reducible exact t_behindNumber _ | with_reducible exact t_asNumber _ _ | with_reducible exact t_byteOf _ | with_reducible exact t_partAt _ _ _ | with_reducible exact t_fieldPlace _ _ | with_reducible exact t_askRoom _ | with_reducible exact t_shape _ | with_reducible exact t_frozen _ | with_reducible exact t_choose _ | with_reducible exact t_load _ _ | with_reducible exact t_store _ _ _ | with_reducible refine t_program ?_ | (refine t_mapM _ (fun _ => ?_) _) | with_reducible refine t_getObj _ (fun _ => ?_) (fun _ _ => rfl) | with_reducible refine t_bind ?_ (fun _ => ?_) | split | (dsimp only))
theorem t_fieldAt (t : TypeId) (v : Value) (f : Nat) : Tame P Any (Instr.fieldAt t v f) := by
  unfold Instr.fieldAt
  repeat' (first | with_reducible exact t_pure _ trivial | with_reducible exact t_stuck _ | with_reducible exact t_unsup _ (by simp) | with_reducible exact t_runtimePanic _ | with_reducible exact t_boundsPanic _ _ _ _ | with_reducible exact t_panic _ | with_reducible exact t_newVar _ _ | with_reducible exact t_newRow _ _ | with_reducible exact t_typeInfo _ | with_reducible exact t_underlying' _ | with_reducible exact t_sizeOf _ | with_reducible exact t_zeroValue _ | with_reducible exact t_isAgg _ | with_reducible exact t_loadCells _ _ | with_reducible exact t_loadVar _ _ | with_reducible exact t_storeVar _ _ _ | with_reducible exact t_storeCells _ _ _ | with_reducible exact t_sureAddr _ | with_reducible exact t_asIntOf _ | with_reducible exact t_asInt _ | with_reducible exact t_asBool _ | with_reducible exact t_elemOf _ | with_reducible exact t_viewAt _ | with_reducible exact t_numberAt _ | with_reducible exact t_noView _ | with_reducible exact t_behindNumber _ | with_reducible exact t_asNumber _ _ | with_reducible exact t_byteOf _ | with_reducible exact t_partAt _ _ _ | with_reducible exact t_fieldPlace _ _ | with_reducible exact t_askRoom _ | with_reducible exact t_shape _ | with_reducible exact t_frozen _ | with_reducible exact t_choose _ | with_reducible exact t_load _ _ | with_reducible exact t_store _ _ _ | with_reducible refine t_program ?_ | (refine t_mapM _ (fun _ => ?_) _) | with_reducible refine t_getObj _ (fun _ => ?_) (fun _ _ => rfl) | with_reducible refine t_bind ?_ (fun _ => ?_) | split | (dsimp only))
theorem t_indexAt (t : TypeId) (v x : Value) : Tame P Any (Instr.indexAt t v x) := by
  unfold Instr.indexAt
  repeat' (first | with_reducible exact t_pure _ trivial | with_reducible exact t_stuck _ | with_reducible exact t_unsup _ (by simp) | with_reducible exact t_runtimePanic _ | with_reducible exact t_boundsPanic _ _ _ _ | with_reducible exact t_panic _ | with_reducible exact t_newVar _ _ | with_reducible exact t_newRow _ _ | with_reducible exact t_typeInfo _ | with_reducible exact t_underlying' _ | with_reducible exact t_sizeOf _ | with_reducible exact t_zeroValue _ | with_reducible exact t_isAgg _ | with_reducible exact t_loadCells _ _ | with_reducible exact t_loadVar _ _ | with_reducible exact t_storeVar _ _ _ | with_reducible exact t_storeCells _ _ _ | with_reducible exact t_sureAddr _ | with_reducible exact t_asIntOf _ | with_reducible exact t_asInt _ | with_reducible exact t_asBool _ | with_reducible exact t_elemOf _ | with_reducible exact t_viewAt _ | with_reducible exact t_numberAt _ | with_reducible exact t_noView _ | with_reducible exact t_behindNumber _ | with_reducible exact t_asNumber _ _ | with_reducible exact t_byteOf _ | with_reducible exact t_partAt _ _ _ | with_reducible exact t_fieldPlace _ _ | with_reducible exact t_askRoom _ | with_reducible exact t_shape _ | with_reducible exact t_frozen _ | with_reducible exact t_choose _ | with_reducible exact t_load _ _ | with_reducible exact t_store _ _ _ | with_reducible refine t_program ?_ | (refine t_mapM _ (fun _ => ?_) _) | with_reducible refine t_getObj _ (fun _ => ?_) (fun _ _ => rfl) | with_reducible refine t_bind ?_ (fun _ => ?_) | split | (dsimp only))
theorem t_makeSlice (t : TypeId) (l c : Value) : Tame P Any (Instr.makeSlice t l c) := by
  unfold Instr.makeSlice
  repeat' (first | with_reducible exact t_pure _ trivial | with_reducible exact t_stuck _ | with_reducible exact t_unsup _ (by simp) | with_reducible exact t_runtimePanic _ | with_reducible exact t_boundsPanic _ _ _ _ | with_reducible exact t_panic _ | with_reducible exact t_newVar _ _ | with_reducible exact t_newRow _ _ | with_reducible exact t_typeInfo _ | with_reducible exact t_underlying' _ | with_reducible exact t_sizeOf _ | with_reducible exact t_zeroValue _ | with_reducible exact t_isAgg _ | with_reducible exact t_loadCells _ _ | with_reducible exact t_loadVar _ _ | with_reducible exact t_storeVar _ _ _ | with_reducible exact t_storeCells _ _ _ | with_reducible exact t_sureAddr _ | with_reducible exact t_asIntOf _ | with_reducible exact t_asInt _ | with_reducible exact t_asBool _ | with_reducible exact t_elemOf _ | with_reducible exact t_viewAt _ | with_reducible exact t_numberAt _ | with_reducible exact t_noView _ | with_reducible exact t_behindNumber _ | with_reducible exact t_asNumber _ _ | with_reducible exact t_byteOf _ | with_reducible exact t_partAt _ _ _ | with_reducible exact t_fieldPlace _ _ | with_reducible exact t_askRoom _ | with_reducible exact t_shape _ | with_reducible exact t_frozen _ | with_reducible exact t_choose _ | with_reducible exact t_load _ _ | with_reducible exact t_store _ _ _ | with_reducible refine t_program ?_ | (refine t_mapM _ (fun _ => ?_) _) | with_reducible refine t_getObj _ (fun _ => ?_) (fun _ _ => rfl) | with_reducible refine t_bind ?_ (fun _ => ?_) | split | (dsimp only))
theorem t_len (ts : Array TypeId) (t : TypeId) (vs : Array Value) : Tame P Any (Builtin.len_ ts t vs) := by
  unfold Builtin.len_
  repeat' (first | with_reducible exact t_pure _ trivial | with_reducible exact t_stuck _ | with_reducible exact t_unsup _ (by simp) | with_reducible exact t_runtimePanic _ | with_reducible exact t_boundsPanic _ _ _ _ | with_reducible exact t_panic _ | with_reducible exact t_newVar _ _ | with_reducible exact t_newRow _ _ | with_reducible exact t_typeInfo _ | with_reducible exact t_underlying' _ | with_reducible exact t_sizeOf _ | with_reducible exact t_zeroValue _ | with_reducible exact t_isAgg _ | with_reducible exact t_loadCells _ _ | with_reducible exact t_loadVar _ _ | with_reducible exact t_storeVar _ _ _ | with_reducible exact t_storeCells _ _ _ | with_reducible exact t_sureAddr _ | with_reducible exact t_asIntOf _ | with_reducible exact t_asInt _ | with_reducible exact t_asBool _ | with_reducible exact t_elemOf _ | with_reducible exact t_viewAt _ | with_reducible exact t_numberAt _ | with_reducible exact t_noView _ | with_reducible exact t_behindNumber _ | with_reducible exact t_asNumber _ _ | with_reducible exact t_byteOf _ | with_reducible exact t_partAt _ _ _ | with_reducible exact t_fieldPlace _ _ | with_reducible exact t_askRoom _ | with_reducible exact t_shape _ | with_reducible exact t_frozen _ | with_reducible exact t_choose _ | with_reducible exact t_load _ _ | with_reducible exact t_store _ _ _ | with_reducible refine t_program ?_ | (refine t_mapM _ (fun _ => ?_) _) | with_reducible refine t_getObj _ (fun _ => ?_) (fun _ _ => rfl) | with_reducible refine t_bind ?_ (fun _ => ?_) | split | (dsimp only))
theorem t_holds (a : Addr) (n : Nat) : Tame P Any (Builtin.holdsCells a n) := by
  unfold Builtin.holdsCells
  repeat' (first | with_reducible exact t_pure _ trivial | with_reducible exact t_stuck _ | with_reducible exact t_unsup _ (by simp) | with_reducible exact t_runtimePanic _ | with_reducible exact t_boundsPanic _ _ _ _ | with_reducible exact t_panic _ | with_reducible exact t_newVar _ _ | with_reducible exact t_newRow _ _ | with_reducible exact t_typeInfo _ | with_reducible exact t_underlying' _ | with_reducible exact t_sizeOf _ | with_reducible exact t_zeroValue _ | with_reducible exact t_isAgg _ | with_reducible exact t_loadCells _ _ | with_reducible exact t_loadVar _ _ | with_reducible exact t_storeVar _ _ _ | with_reducible exact t_storeCells _ _ _ | with_reducible exact t_sureAddr _ | with_reducible exact t_asIntOf _ | with_reducible exact t_asInt _ | with_reducible exact t_asBool _ | with_reducible exact t_elemOf _ | with_reducible exact t_viewAt _ | with_reducible exact t_numberAt _ | with_reducible exact t_noView _ | with_reducible exact t_behindNumber _ | with_reducible exact t_asNumber _ _ | with_reducible exact t_byteOf _ | with_reducible exact t_partAt _ _ _ | with_reducible exact t_fieldPlace _ _ | with_reducible exact t_askRoom _ | with_reducible exact t_shape _ | with_reducible exact t_frozen _ | with_reducible exact t_choose _ | with_reducible exact t_load _ _ | with_reducible exact t_store _ _ _ | with_reducible refine t_program ?_ | (refine t_mapM _ (fun _ => ?_) _) | with_reducible refine t_getObj _ (fun _ => ?_) (fun _ _ => rfl) | with_reducible refine t_bind ?_ (fun _ => ?_) | split | (dsimp only))
theorem t_mayShare (a b c : Nat) (d : Option Addr) (v : Value) : Tame P Any (Builtin.mayShare a b c d v) := by
  unfold Builtin.mayShare
  repeat' (first | with_reducible exact t_pure _ trivial | with_reducible exact t_stuck _ | with_reducible exact t_unsup _ (by simp) | with_reducible exact t_runtimePanic _ | with_reducible exact t_boundsPanic _ _ _ _ | with_reducible exact t_panic _ | with_reducible exact t_newVar _ _ | with_reducible exact t_newRow _ _ | with_reducible exact t_typeInfo _ | with_reducible exact t_underlying' _ | with_reducible exact t_sizeOf _ | with_reducible exact t_zeroValue _ | with_reducible exact t_isAgg _ | with_reducible exact t_loadCells _ _ | with_reducible exact t_loadVar _ _ | with_reducible exact t_storeVar _ _ _ | with_reducible exact t_storeCells _ _ _ | with_reducible exact t_sureAddr _ | with_reducible exact t_asIntOf _ | with_reducible exact t_asInt _ | with_reducible exact t_asBool _ | with_reducible exact t_elemOf _ | with_reducible exact t_viewAt _ | with_reducible exact t_numberAt _ | with_reducible exact t_noView _ | with_reducible exact t_behindNumber _ | with_reducible exact t_asNumber _ _ | with_reducible exact t_byteOf _ | with_reducible exact t_partAt _ _ _ | with_reducible exact t_fieldPlace _ _ | with_reducible exact t_askRoom _ | with_reducible exact t_shape _ | with_reducible exact t_frozen _ | with_reducible exact t_choose _ | with_reducible exact t_load _ _ | with_reducible exact t_store _ _ _ | with_reducible exact t_holds _ _ | with_reducible refine t_program ?_ | (refine t_mapM _ (fun _ => ?_) _) | with_reducible refine t_getObj _ (fun _ => ?_) (fun _ _ => rfl) | with_reducible refine t_bind ?_ (fun _ => ?_) | split | (dsimp only))
theorem t_lenOf (v : Value) : Tame P Any (Builtin.lenOf v) := by
  unfold Builtin.lenOf
  repeat' (first | with_reducible exact t_pure _ trivial | with_reducible exact t_stuck _ | with_reducible exact t_unsup _ (by simp) | with_reducible exact t_runtimePanic _ | with_reducible exact t_boundsPanic _ _ _ _ | with_reducible exact t_panic _ | with_reducible exact t_newVar _ _ | with_reducible exact t_newRow _ _ | with_reducible exact t_typeInfo _ | with_reducible exact t_underlying' _ | with_reducible exact t_sizeOf _ | with_reducible exact t_zeroValue _ | with_reducible exact t_isAgg _ | with_reducible exact t_loadCells _ _ | with_reducible exact t_loadVar _ _ | with_reducible exact t_storeVar _ _ _ | with_reducible exact t_storeCells _ _ _ | with_reducible exact t_sureAddr _ | with_reducible exact t_asIntOf _ | with_reducible exact t_asInt _ | with_reducible exact t_asBool _ | with_reducible exact t_elemOf _ | with_reducible exact t_viewAt _ | with_reducible exact t_numberAt _ | with_reducible exact t_noView _ | with_reducible exact t_behindNumber _ | with_reducible exact t_asNumber _ _ | with_reducible exact t_byteOf _ | with_reducible exact t_partAt _ _ _ | with_reducible exact t_fieldPlace _ _ | with_reducible exact t_askRoom _ | with_reducible exact t_shape _ | with_reducible exact t_frozen _ | with_reducible exact t_choose _ | with_reducible exact t_load _ _ | with_reducible exact t_store _ _ _ | with_reducible refine t_program ?_ | (refine t_mapM _ (fun _ => ?_) _) | with_reducible refine t_getObj _ (fun _ => ?_) (fun _ _ => rfl) | with_reducible refine t_bind ?_ (fun _ => ?_) | split | (dsimp only))
theorem t_firstCells (a b : Nat) (v : Value) : Tame P Any (Builtin.firstCells a b v) := by
  unfold Builtin.firstCells
  repeat' (first | with_reducible exact t_pure _ trivial | with_reducible exact t_stuck _ | with_reducible exact t_unsup _ (by simp) | with_reducible exact t_runtimePanic _ | with_reducible exact t_boundsPanic _ _ _ _ | with_reducible exact t_panic _ | with_reducible exact t_newVar _ _ | with_reducible exact t_newRow _ _ | with_reducible exact t_typeInfo _ | with_reducible exact t_underlying' _ | with_reducible exact t_sizeOf _ | with_reducible exact t_zeroValue _ | with_reducible exact t_isAgg _ | with_reducible exact t_loadCells _ _ | with_reducible exact t_loadVar _ _ | with_reducible exact t_storeVar _ _ _ | with_reducible exact t_storeCells _ _ _ | with_reducible exact t_sureAddr _ | with_reducible exact t_asIntOf _ | with_reducible exact t_asInt _ | with_reducible exact t_asBool _ | with_reducible exact t_elemOf _ | with_reducible exact t_viewAt _ | with_reducible exact t_numberAt _ | with_reducible exact t_noView _ | with_reducible exact t_behindNumber _ | with_reducible exact t_asNumber _ _ | with_reducible exact t_byteOf _ | with_reducible exact t_partAt _ _ _ | with_reducible exact t_fieldPlace _ _ | with_reducible exact t_askRoom _ | with_reducible exact t_shape _ | with_reducible exact t_frozen _ | with_reducible exact t_choose _ | with_reducible exact t_load _ _ | with_reducible exact t_store _ _ _ | with_reducible refine t_program ?_ | (refine t_mapM _ (fun _ => ?_) _) | with_reducible refine t_getObj _ (fun _ => ?_) (fun _ _ => rfl) | with_reducible refine t_bind ?_ (fun _ => ?_) | split | (dsimp only))
theorem t_append (ts : Array TypeId) (t : TypeId) (vs : Array Value) : Tame P Any (Builtin.append_ ts t vs) := by
  unfold Builtin.append_
  split
  · refine t_bind (t_underlying' _) fun d => ?_
    split
    · split
      · refine t_bind (t_sizeOf _) fun n => ?_
        extract_lets jp k
        have hjp : ∀ x, Tame P Any (jp x) := fun _ => t_unsup _ (by simp)
        clear_value jp
        have hk : ∀ z, Tame P Any (k z) := by
          intro z
          unfold k
          clear_value k
          extract_lets k2
          have hk2 : ∀ m, Tame P Any (k2 m) := by
            intro m
            unfold k2
            clear_value k2
            extract_lets appended need k5 k4 k3
            have happ : Tame P Any appended := by
              unfold appended
              split
              · exact t_firstCells _ _ _
              · split
                · exact t_pure _ trivial
                · exact t_bind (t_zeroValue _) fun _ => trivial
            have hk4 : ∀ u, Tame P Any (k4 u) := by
              intro u
              unfold k4
              exact t_bind (t_choose _) fun _ => t_bind (t_typeInfo _) fun _ => t_bind (t_askRoom _) fun _ => t_bind (t_firstCells _ _ _) fun _ => t_bind happ fun _ => t_bind (t_zeroValue _) fun _ => t_bind (t_newRow _ _) fun _ => trivial
            have hk5 : ∀ u, Tame P Any (k5 u) := fun _ => trivial
            clear_value k4 k5
            have hk3 : ∀ u, Tame P Any (k3 u) := by
              intro u
              unfold k3
              clear_value k3
              refine t_bind (t_typeInfo _) fun i => ?_
              split
              · refine t_bind ?_ fun _ => hk4 _
                split
                · exact t_runtimePanic _
                · refine t_bind (t_mayShare _ _ _ _ _) fun b => ?_
                  split
                  · exact t_bind (⟨rfl, trivial⟩ : Tame P Any (mark .noRoom)) fun _ => hjp _
                  · exact hjp _
              · exact hk4 _
            clear_value k3
            clear_value appended need
            split
            · refine t_bind happ fun new => ?_
              split
              · exact t_bind (t_storeCells _ _ _) fun _ => hk5 _
              · exact hk5 _
            · refine t_bind (t_typeInfo _) fun i => ?_
              split
              · exact t_bind (t_runtimePanic _) fun _ => hk3 _
              · exact hk3 _
          clear_value k2
          split
          · refine t_bind (t_asInt _) fun l => ?_
            extract_lets l' k0 k3
            have hk0 : ∀ u, Tame P Any (k0 u) := fun _ => t_bind (t_pure _ trivial) fun _ => hk2 _
            clear_value k0
            have hk3 : ∀ u, Tame P Any (k3 u) := by
              intro u
              unfold k3
              clear_value k3
              refine t_bind (t_typeInfo _) fun i => ?_
              split
              · exact t_bind (t_choose _) fun _ => t_bind (t_runtimePanic _) fun _ => hk0 _
              · exact hk0 _
            clear_value k3
            split
            · exact t_bind (t_runtimePanic _) fun _ => hk3 _
            · exact hk3 _
          · exact t_bind (t_lenOf _) fun _ => hk2 _
        clear_value k
        split
        · exact t_bind (t_underlying' _) fun _ => t_bind (t_pure _ trivial) fun _ => hk _
        · exact t_bind (t_pure _ trivial) fun _ => hk _
      · exact t_stuck _
    · exact t_stuck _
  · exact t_stuck _

/-! ### operators on whole numbers -/
def IntT (P : Program) (t : TypeId) : Prop := ∃ k, P.underlying t = some (.int k)

theorem t_underInt {t : TypeId} (h : IntT P t) {α : Type} {φ : α → Prop} {f : TypeDesc → Sem α} (hf : ∀ k, Tame P φ (f (.int k))) : Tame P φ (underlying t >>= f) := by
  obtain ⟨k, hk⟩ := h
  refine (t_underlying t).bind fun d hd => ?_
  rw [hk] at hd
  cases hd
  exact hf k

theorem t_equal {t : TypeId} (h : IntT P t) (x y : Value) : Tame P Any (Op.equal t x y) := by
  unfold Op.equal Op.maxDepth Op.equalIn
  refine t_underInt h fun k => ?_
  split
  · exact trivial
  · split
    · exact trivial
    · exact t_stuck _
  · exact trivial
  · exact trivial
  · refine t_bind (t_behindNumber _) fun a => t_bind (t_behindNumber _) fun b => t_program ?_
    split
    · exact t_bind (t_byteOf _) fun _ => t_bind (t_byteOf _) fun _ => trivial
    · refine t_bind (t_typeInfo _) fun i => ?_
      split
      · split
        · exact trivial
        · exact t_unsup _ (by simp)
      · exact t_unsup _ (by simp)
  all_goals first | contradiction | exact trivial | exact t_unsup _ (by simp) | exact t_stuck _

theorem t_eqGuardIn {t : TypeId} (h : IntT P t) (x y : Value) : Tame P Any (Op.eqGuardIn Op.maxDepth t x y) := by
  unfold Op.maxDepth Op.eqGuardIn
  refine t_underInt h fun k => ?_
  split <;> first | contradiction | exact trivial

theorem t_eqGuard (op : BinOp) {t : TypeId} (h : IntT P t) (x y : Operand) (a b : Value) : Tame P Any (eqGuard op t x y a b) := by
  unfold eqGuard
  cases op
  case eql =>
    simp only [Bool.not_true, Bool.false_eq_true, if_false]
    split
    · have key : ∀ u : Unsupported, (∀ g, u ≠ .initOrder g) → Tame P Any (do if ← Op.eqGuardIn Op.maxDepth t .nilIface .nilIface then unsupported u : Sem Unit) := fun u hu => by
        refine t_bind (t_eqGuardIn h _ _) fun b => ?_
        split
        · exact t_unsup _ hu
        · exact trivial
      (repeat' split) <;> first | exact trivial | exact key _ (by simp)
    · refine t_program (t_program ?_)
      split
      · exact trivial
      · refine t_bind (t_eqGuardIn h _ _) fun b => ?_
        split
        · exact t_unsup _ (by simp)
        · exact trivial
    · exact trivial
  case neq =>
    simp only [Bool.not_true, Bool.false_eq_true, if_false]
    split
    · have key : ∀ u : Unsupported, (∀ g, u ≠ .initOrder g) → Tame P Any (do if ← Op.eqGuardIn Op.maxDepth t .nilIface .nilIface then unsupported u : Sem Unit) := fun u hu => by
        refine t_bind (t_eqGuardIn h _ _) fun b => ?_
        split
        · exact t_unsup _ hu
        · exact trivial
      (repeat' split) <;> first | exact trivial | exact key _ (by simp)
    · refine t_program (t_program ?_)
      split
      · exact trivial
      · refine t_bind (t_eqGuardIn h _ _) fun b => ?_
        split
        · exact t_unsup _ (by simp)
        · exact trivial
    · exact trivial
  all_goals exact trivial

theorem t_unsafeAdd (ts : Array TypeId) (t : TypeId) (v y : Value) : Tame P Any (Builtin.unsafeAdd_ ts t #[v, y]) := by
  unfold Builtin.unsafeAdd_
  cases v
  case pointer p =>
    refine t_bind (t_asInt y) fun n => ?_
    repeat' (first | with_reducible exact t_pure _ trivial | with_reducible exact t_stuck _ | with_reducible exact t_unsup _ (by simp) | with_reducible exact t_runtimePanic _ | with_reducible exact t_asInt _ | with_reducible exact t_viewAt _ | with_reducible exact t_shape _ | with_reducible exact t_behindNumber _ | with_reducible exact t_asNumber _ _ | with_reducible exact t_byteOf _ | with_reducible refine t_program ?_ | with_reducible refine t_getObj _ (fun _ => ?_) (fun _ _ => rfl) | with_reducible refine t_bind ?_ (fun _ => ?_) | split | (dsimp only))
  all_goals exact t_stuck _
theorem t_movedNumber {t : TypeId} (h : IntT P t) (x y : Value) : Tame P Any (movedNumber t x y) := by
  unfold movedNumber
  refine t_underInt h fun k => ?_
  repeat' (first | with_reducible exact t_pure _ trivial | with_reducible exact t_stuck _ | with_reducible exact t_unsup _ (by simp) | with_reducible exact t_runtimePanic _ | with_reducible exact t_asInt _ | with_reducible exact t_viewAt _ | with_reducible exact t_shape _ | with_reducible exact t_behindNumber _ | with_reducible exact t_asNumber _ _ | with_reducible exact t_byteOf _ | with_reducible exact t_unsafeAdd _ _ _ _ | with_reducible refine t_program ?_ | with_reducible refine t_getObj _ (fun _ => ?_) (fun _ _ => rfl) | with_reducible refine t_bind ?_ (fun _ => ?_) | split | (dsimp only))

def opOk : BinOp → Bool
  | .add | .sub | .lss | .leq | .gtr | .geq | .eql | .neq => true
  | _ => false

theorem t_intCmp (op : BinOp) (x y : Int) : Tame P Any (Op.intCmp op x y) := by
  unfold Op.intCmp; split <;> exact trivial
theorem t_addrCmp (op : BinOp) (x y : Addr) : Tame P Any (Op.addrCmp op x y) := by
  unfold Op.addrCmp Op.twoPlaces
  repeat' (first | with_reducible exact t_pure _ trivial | with_reducible exact t_stuck _ | with_reducible exact t_unsup _ (by simp) | with_reducible exact t_runtimePanic _ | with_reducible exact t_asInt _ | with_reducible exact t_viewAt _ | with_reducible exact t_shape _ | with_reducible exact t_behindNumber _ | with_reducible exact t_asNumber _ _ | with_reducible exact t_byteOf _ | with_reducible refine t_program ?_ | with_reducible refine t_getObj _ (fun _ => ?_) (fun _ _ => rfl) | with_reducible refine t_bind ?_ (fun _ => ?_) | split | (dsimp only))
theorem t_addrSub (k : IntKind) (x y : Addr) : Tame P Any (Op.addrSub k x y) := by
  unfold Op.addrSub Op.twoPlaces
  repeat' (first | with_reducible exact t_pure _ trivial | with_reducible exact t_stuck _ | with_reducible exact t_unsup _ (by simp) | with_reducible exact t_runtimePanic _ | with_reducible exact t_asInt _ | with_reducible exact t_viewAt _ | with_reducible exact t_shape _ | with_reducible exact t_behindNumber _ | with_reducible exact t_asNumber _ _ | with_reducible exact t_byteOf _ | with_reducible refine t_program ?_ | with_reducible refine t_getObj _ (fun _ => ?_) (fun _ _ => rfl) | with_reducible refine t_bind ?_ (fun _ => ?_) | split | (dsimp only))

theorem t_floatArith (op : BinOp) (k : FloatKind) (x y : Nat) : Tame P Any (Op.floatArith op k x y) := by
  unfold Op.floatArith
  extract_lets jp
  have hjp : ∀ r, Tame P Any (jp r) := by
    intro r
    unfold jp
    split
    · exact trivial
    · exact t_bind (t_choose _) fun _ => trivial
  clear_value jp
  split <;> first | exact t_bind (t_pure _ trivial) fun _ => hjp _ | exact t_bind (t_stuck _) fun _ => hjp _
theorem t_floatCmp (op : BinOp) (k : FloatKind) (x y : Nat) : Tame P Any (Op.floatCmp op k x y) := by
  unfold Op.floatCmp
  dsimp only
  split <;> exact trivial
theorem t_arith (op : BinOp) (k : FloatKind) (x y : Nat) : Tame P Any (Op.Complex.arith op k x y) := by
  unfold Op.Complex.arith
  refine t_bind (t_floatArith _ _ _ _) fun v => ?_
  split
  · exact trivial
  · exact t_stuck _
theorem t_cmp (op : BinOp) (k : FloatKind) (x y : Nat) : Tame P Any (Op.Complex.cmp op k x y) := by
  unfold Op.Complex.cmp
  exact t_bind (t_floatCmp _ _ _ _) fun v => t_asBool _
theorem t_complexOp (op : BinOp) (ho : opOk op = true) (k : FloatKind) (a b c d : Nat) : Tame P Any (Op.complexOp op k a b c d) := by
  unfold Op.complexOp
  cases op <;> first | exact Bool.noConfusion (ho : false = true) | exact t_stuck _ | exact t_bind (t_arith _ _ _ _) fun _ => t_bind (t_arith _ _ _ _) fun _ => trivial | skip
  all_goals
    refine t_bind (t_cmp _ _ _ _) fun b => ?_
    (repeat' split) <;> first | exact trivial | exact t_bind (t_cmp _ _ _ _) fun _ => trivial | exact t_bind trivial fun _ => trivial
theorem t_stringOp (op : BinOp) (x y : ByteArray) : Tame P Any (Op.stringOp op x y) := by
  unfold Op.stringOp
  dsimp only
  (repeat' split) <;> first | exact trivial | exact t_unsup _ (by simp)

theorem t_binOp (op : BinOp) (ho : opOk op = true) {t : TypeId} (h : IntT P t) (x y : Value) : Tame P Any (binOp op t x y) := by
  unfold binOp
  split
  · exact Bool.noConfusion (ho : false = true)
  · exact Bool.noConfusion (ho : false = true)
  · split
    · exact t_stuck _
    · cases op <;> first | exact Bool.noConfusion (ho : false = true) | exact trivial | exact t_intCmp _ _ _
  · split
    · exact t_stuck _
    · cases op <;> first | exact Bool.noConfusion (ho : false = true) | exact t_floatArith _ _ _ _ | exact t_floatCmp _ _ _ _
  · split
    · exact t_stuck _
    · exact t_complexOp _ ho _ _ _ _ _
  · exact t_stringOp _ _ _
  · exact t_bind (t_equal h _ _) fun _ => trivial
  · exact t_bind (t_equal h _ _) fun _ => trivial
  · exact t_underInt h fun k => t_movedNumber h _ _
  · exact t_movedNumber h _ _
  · exact t_movedNumber h _ _
  · exact t_bind (t_behindNumber _) fun _ => t_bind (t_behindNumber _) fun _ => t_addrSub _ _ _
  · exact t_bind (t_behindNumber _) fun _ => t_bind (t_behindNumber _) fun _ => t_addrCmp _ _ _
  · exact t_bind (t_behindNumber _) fun _ => t_bind (t_behindNumber _) fun _ => t_addrCmp _ _ _
  · exact t_bind (t_behindNumber _) fun _ => t_bind (t_behindNumber _) fun _ => t_addrCmp _ _ _
  · exact t_bind (t_behindNumber _) fun _ => t_bind (t_behindNumber _) fun _ => t_addrCmp _ _ _
  · exact Bool.noConfusion (ho : false = true)
  · exact Bool.noConfusion (ho : false = true)
  · exact Bool.noConfusion (ho : false = true)
  · exact t_unsup _ (by simp)
  · exact t_unsup _ (by simp)
  · exact t_stuck _

theorem t_not (x : Value) : Tame P Any (Op.unary .not x) := by
  unfold Op.unary
  split <;> first | exact trivial | contradiction

/-! ### calls -/
/-- What a tame operation may come to: a value, nothing, or a call of one of the functions of F. -/
def Leaf (F : FuncId → Prop) : Next → Prop
  | .value _ => True
  | .skip => True
  | .enter f _ => F f
  | _ => False

/-- A function with a body. -/
def Bodied (P : Program) (f : FuncId) : Prop := ∃ fn c, P.funcs[f]? = some fn ∧ (fn.name == "runtime.NumGoroutine") = false ∧ fn.body = some c

theorem t_callFunc {F : FuncId → Prop} {f : FuncId} (hF : F f) (h : Bodied P f) (args : Array Value) : Tame P (Leaf F) (callFunc f args) := by
  obtain ⟨fn, c, h1, h2, h3⟩ := h
  unfold callFunc
  refine t_program ?_
  simp only [h1, h2, h3, Option.isNone_some, Bool.false_eq_true, if_false]
  exact hF

def isIntT (P : Program) (t : TypeId) : Bool := match P.underlying t with
  | some (.int _) => true
  | _ => false
theorem intT_of {t : TypeId} (h : isIntT P t = true) : IntT P t := by
  unfold isIntT at h
  split at h
  · rename_i k hk; exact ⟨k, hk⟩
  · cases h

/-- The operations that the lift takes. -/
def plainOp (P : Program) (F : List FuncId) (o : Oper) : Bool := match o.op with
  | .assign _ | .move _ | .pick .. | .box .. | .buildSlice .. | .build .. | .load .. | .store .. | .indexAddr .. | .fieldAddr .. | .makeSlice .. => true
  | .unOp .not _ _ => true
  | .binOp op t _ _ _ => opOk op && isIntT P t
  | .call c => match c.callee with
    | .builtin .len | .builtin .append => true
    | .value (.func f) => F.contains f
    | _ => false
  | _ => false

theorem t_execOp {F : List FuncId} (hF : ∀ f, f ∈ F → Bodied P f) {ρ : Operand → Value} (hρ : ∀ f, ρ (.func f) = .func (.func f) #[] #[]) {o : Oper} (h : plainOp P F o = true) : Tame P (Leaf (· ∈ F)) (execOp ρ o) := by
  unfold plainOp at h
  unfold execOp
  split at h
  · rename_i hop; rw [hop]; exact trivial
  · rename_i hop; rw [hop]; exact trivial
  · rename_i hop; rw [hop]
    refine t_bind (t_asBool _) fun b => ?_
    split <;> exact trivial
  · rename_i hop; rw [hop]; exact t_bind (t_box _ _) fun _ => trivial
  · rename_i hop; rw [hop]; exact t_bind (t_buildSlice _ _ _) fun _ => trivial
  · rename_i hop; rw [hop]; exact t_bind (t_build _ _) fun _ => trivial
  · rename_i hop; rw [hop]; exact t_bind (t_loadAt _ _) fun _ => trivial
  · rename_i hop; rw [hop]; exact t_bind (t_storeAt _ _ _) fun _ => trivial
  · rename_i hop; rw [hop]; exact t_bind (t_indexAt _ _ _) fun _ => trivial
  · rename_i hop; rw [hop]; exact t_bind (t_fieldAt _ _ _) fun _ => trivial
  · rename_i hop; rw [hop]; exact t_bind (t_makeSlice _ _ _) fun _ => trivial
  · rename_i hop; rw [hop]; exact t_bind (t_not _) fun _ => trivial
  · rename_i hop; rw [hop]
    simp only [Bool.and_eq_true] at h
    exact t_bind (t_bind (t_eqGuard _ (intT_of h.2) _ _ _ _) fun _ => t_binOp _ h.1 (intT_of h.2) _ _) fun _ => trivial
  · rename_i c hop; rw [hop]
    dsimp only
    unfold resolve
    dsimp only
    split at h
    · rename_i hc; rw [hc]
      exact (show Tame P (Leaf (· ∈ F)) (Builtin.len_ c.argTypes o.type (c.args.map ρ) >>= fun v => pure (.value v)) from t_bind (t_len _ _ _) fun _ => trivial)
    · rename_i hc; rw [hc]
      exact (show Tame P (Leaf (· ∈ F)) (Builtin.append_ c.argTypes o.type (c.args.map ρ) >>= fun v => pure (.value v)) from t_bind (t_append _ _ _) fun _ => trivial)
    · rename_i f hc; rw [hc]
      dsimp only
      rw [hρ]
      have hf : f ∈ F := by simpa using h
      exact t_callFunc hf (hF f hf) _
    · cases h
  · cases h

end Go.Proofs.YtakjhhkffiffdaaLift
