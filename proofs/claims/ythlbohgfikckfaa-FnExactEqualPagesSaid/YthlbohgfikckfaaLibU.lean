/- The types of the program as data that a call owns. No conditions. -/
import Derived.Test.YthlbohgfikckfaaLibO
set_option linter.all false
namespace Go.Sw
open Go Go.RowKit
variable {M : Nat → Prop}

theorem nilOwn {α : Type} [Ph α] [Own α] (w : World) : Own.own w (⟨[], none, 0⟩ : Sl α) [] := ⟨by simp, by simp, [], [], rfl, .nil rfl rfl rfl, rfl⟩

instance : Flat TAddr := ⟨fun h => ⟨Flat.any h.host, Flat.any h.path⟩⟩
theorem TAddr.zok (w : World) : Ph.ok w (⟨[], []⟩ : TAddr) := ⟨Nat.zero_le _, Nat.zero_le _⟩

instance : Flat TAttr := ⟨fun h => ⟨Flat.any h.name, Flat.any h.value⟩⟩
theorem TAttr.zok (w : World) : Ph.ok w (⟨[], []⟩ : TAttr) := ⟨Nat.zero_le _, Nat.zero_le _⟩

instance : Own PToken where
  own w x F := (Ph.ok w x.kind ∧ Ph.ok w x.name ∧ Ph.ok w x.text ∧ True) ∧ ∃ F0, Own.own w x.attrs F0 ∧ F = F0
  ok := by rintro w x F ⟨⟨a_kind, a_name, a_text, _⟩, F0, o_attrs, rfl⟩; exact ⟨a_kind, a_name, Own.ok o_attrs, a_text⟩
  loc := by
    rintro w w' x F hb ⟨⟨a_kind, a_name, a_text, _⟩, F0, o_attrs, rfl⟩
    exact ⟨⟨Flat.any a_kind, Flat.any a_name, Flat.any a_text, trivial⟩, F, Own.loc hb o_attrs, rfl⟩
  lt := by
    rintro w x F ⟨⟨a_kind, a_name, a_text, _⟩, F0, o_attrs, rfl⟩ b hb
    · exact Own.lt o_attrs b hb

theorem PToken.join {w0 w : World} {C : List Chunk} {F0 : List Nat} (x : PToken) (hs : Sat M w0 w (ow x.attrs F0 :: C)) (a_kind : Ph.ok w x.kind) (a_name : Ph.ok w x.name) (a_text : Ph.ok w x.text) : Sat M w0 w (ow x (F0) :: C) := by
  exact Sat.fc_to (p := fun w => Own.own w x.attrs F0) (hl := fun _ _ h hp => Own.loc h hp) hs (fun h => ⟨⟨a_kind, a_name, a_text, trivial⟩, _, h, rfl⟩)

theorem PToken.zown (w : World) : Own.own w (⟨0, [], ⟨[], none, 0⟩, []⟩ : PToken) [] := ⟨⟨⟨by decide, by decide⟩, Nat.zero_le _, Nat.zero_le _, trivial⟩, [], nilOwn w, rfl⟩

instance : Flat TTokenizer := ⟨fun h => ⟨Flat.any h.rest⟩⟩
theorem TTokenizer.zok (w : World) : Ph.ok w (⟨[]⟩ : TTokenizer) := ⟨Nat.zero_le _⟩

instance : Own PNode where
  own w x F := (Ph.ok w x.name ∧ Ph.ok w x.text ∧ Ph.ok w x.parent ∧ True) ∧ ∃ F0, Own.own w x.attrs F0 ∧ F = F0
  ok := by rintro w x F ⟨⟨a_name, a_text, a_parent, _⟩, F0, o_attrs, rfl⟩; exact ⟨a_name, a_text, a_parent, Own.ok o_attrs⟩
  loc := by
    rintro w w' x F hb ⟨⟨a_name, a_text, a_parent, _⟩, F0, o_attrs, rfl⟩
    exact ⟨⟨Flat.any a_name, Flat.any a_text, Flat.any a_parent, trivial⟩, F, Own.loc hb o_attrs, rfl⟩
  lt := by
    rintro w x F ⟨⟨a_name, a_text, a_parent, _⟩, F0, o_attrs, rfl⟩ b hb
    · exact Own.lt o_attrs b hb

theorem PNode.join {w0 w : World} {C : List Chunk} {F0 : List Nat} (x : PNode) (hs : Sat M w0 w (ow x.attrs F0 :: C)) (a_name : Ph.ok w x.name) (a_text : Ph.ok w x.text) (a_parent : Ph.ok w x.parent) : Sat M w0 w (ow x (F0) :: C) := by
  exact Sat.fc_to (p := fun w => Own.own w x.attrs F0) (hl := fun _ _ h hp => Own.loc h hp) hs (fun h => ⟨⟨a_name, a_text, a_parent, trivial⟩, _, h, rfl⟩)

theorem PNode.zown (w : World) : Own.own w (⟨[], [], 0, ⟨[], none, 0⟩⟩ : PNode) [] := ⟨⟨Nat.zero_le _, Nat.zero_le _, ⟨by decide, by decide⟩, trivial⟩, [], nilOwn w, rfl⟩

instance : Own PBuilder where
  own w x F := (True) ∧ ∃ F0 F1, Own.own w x.nodes F0 ∧ Own.own w x.opn F1 ∧ F = F0 ++ F1
  ok := by rintro w x F ⟨_, F0, F1, o_nodes, o_opn, rfl⟩; exact ⟨Own.ok o_nodes, Own.ok o_opn⟩
  loc := by
    rintro w w' x F hb ⟨_, F0, F1, o_nodes, o_opn, rfl⟩
    exact ⟨trivial, F0, F1, Own.loc (fun b h => hb b (by simp [h])) o_nodes, Own.loc (fun b h => hb b (by simp [h])) o_opn, rfl⟩
  lt := by
    rintro w x F ⟨_, F0, F1, o_nodes, o_opn, rfl⟩ b hb
    simp only [List.mem_append] at hb
    rcases hb with (hb) | hb
    · exact Own.lt o_nodes b hb
    · exact Own.lt o_opn b hb

theorem PBuilder.join {w0 w : World} {C : List Chunk} {F0 F1 : List Nat} (x : PBuilder) (hs : Sat M w0 w (ow x.nodes F0 :: ow x.opn F1 :: C)) : Sat M w0 w (ow x (F0 ++ F1) :: C) := by
  have h1 := Sat.fc_join (F := F0) (G := F1) (p := fun w => Own.own w x.nodes F0) (q := fun w => Own.own w x.opn F1) (hp := fun _ _ h hp => Own.loc h hp) (hq := fun _ _ h hp => Own.loc h hp) hs
  exact h1.fc_to (fun h => ⟨trivial, F0, F1, h.1, h.2, rfl⟩)

theorem PBuilder.zown (w : World) : Own.own w (⟨⟨[], none, 0⟩, ⟨[], none, 0⟩⟩ : PBuilder) [] := ⟨trivial, [], [], nilOwn w, nilOwn w, rfl⟩

instance : Flat TRule := ⟨fun h => ⟨Flat.any h.name, Flat.any h.color⟩⟩
theorem TRule.zok (w : World) : Ph.ok w (⟨[], 0⟩ : TRule) := ⟨Nat.zero_le _, ⟨by decide, by decide⟩⟩

instance : Own PSheet where
  own w x F := (True) ∧ ∃ F0, Own.own w x.rules F0 ∧ F = F0
  ok := by rintro w x F ⟨_, F0, o_rules, rfl⟩; exact ⟨Own.ok o_rules⟩
  loc := by
    rintro w w' x F hb ⟨_, F0, o_rules, rfl⟩
    exact ⟨trivial, F, Own.loc hb o_rules, rfl⟩
  lt := by
    rintro w x F ⟨_, F0, o_rules, rfl⟩ b hb
    · exact Own.lt o_rules b hb

theorem PSheet.join {w0 w : World} {C : List Chunk} {F0 : List Nat} (x : PSheet) (hs : Sat M w0 w (ow x.rules F0 :: C)) : Sat M w0 w (ow x (F0) :: C) := by
  exact Sat.fc_to (p := fun w => Own.own w x.rules F0) (hl := fun _ _ h hp => Own.loc h hp) hs (fun h => ⟨trivial, _, h, rfl⟩)

theorem PSheet.zown (w : World) : Own.own w (⟨⟨[], none, 0⟩⟩ : PSheet) [] := ⟨trivial, [], nilOwn w, rfl⟩

instance : Flat TLine := ⟨fun h => ⟨Flat.any h.op, Flat.any h.text⟩⟩
theorem TLine.zok (w : World) : Ph.ok w (⟨0, []⟩ : TLine) := ⟨⟨by decide, by decide⟩, Nat.zero_le _⟩

instance : Own PPolicy where
  own w x F := (Ph.ok w x.set ∧ Ph.ok w x.nonce ∧ True) ∧ ∃ F0 F1 F2, Own.own w x.scripts F0 ∧ Own.own w x.styles F1 ∧ Own.own w x.images F2 ∧ F = F0 ++ F1 ++ F2
  ok := by rintro w x F ⟨⟨a_set, a_nonce, _⟩, F0, F1, F2, o_scripts, o_styles, o_images, rfl⟩; exact ⟨a_set, Own.ok o_scripts, Own.ok o_styles, Own.ok o_images, a_nonce⟩
  loc := by
    rintro w w' x F hb ⟨⟨a_set, a_nonce, _⟩, F0, F1, F2, o_scripts, o_styles, o_images, rfl⟩
    exact ⟨⟨Flat.any a_set, Flat.any a_nonce, trivial⟩, F0, F1, F2, Own.loc (fun b h => hb b (by simp [h])) o_scripts, Own.loc (fun b h => hb b (by simp [h])) o_styles, Own.loc (fun b h => hb b (by simp [h])) o_images, rfl⟩
  lt := by
    rintro w x F ⟨⟨a_set, a_nonce, _⟩, F0, F1, F2, o_scripts, o_styles, o_images, rfl⟩ b hb
    simp only [List.mem_append] at hb
    rcases hb with ((hb) | hb) | hb
    · exact Own.lt o_scripts b hb
    · exact Own.lt o_styles b hb
    · exact Own.lt o_images b hb

theorem PPolicy.join {w0 w : World} {C : List Chunk} {F0 F1 F2 : List Nat} (x : PPolicy) (hs : Sat M w0 w (ow x.scripts F0 :: ow x.styles F1 :: ow x.images F2 :: C)) (a_set : Ph.ok w x.set) (a_nonce : Ph.ok w x.nonce) : Sat M w0 w (ow x (F0 ++ F1 ++ F2) :: C) := by
  have h1 := Sat.fc_join (F := F0) (G := F1) (p := fun w => Own.own w x.scripts F0) (q := fun w => Own.own w x.styles F1) (hp := fun _ _ h hp => Own.loc h hp) (hq := fun _ _ h hp => Own.loc h hp) hs
  have h2 := Sat.fc_join (G := F2) (q := fun w => Own.own w x.images F2) (hq := fun _ _ h hp => Own.loc h hp) h1
  exact h2.fc_to (fun h => ⟨⟨a_set, a_nonce, trivial⟩, F0, F1, F2, h.1.1, h.1.2, h.2, rfl⟩)

theorem PPolicy.zown (w : World) : Own.own w (⟨false, ⟨[], none, 0⟩, ⟨[], none, 0⟩, ⟨[], none, 0⟩, []⟩ : PPolicy) [] := ⟨⟨trivial, Nat.zero_le _, trivial⟩, [], [], [], nilOwn w, nilOwn w, nilOwn w, rfl⟩

instance : Flat TResponse := ⟨fun h => ⟨Flat.any h.status, Flat.any h.kind, Flat.any h.body, Flat.any h.age, Flat.any h.shares, Flat.any h.policy⟩⟩
theorem TResponse.zok (w : World) : Ph.ok w (⟨0, 0, [], 0, false, []⟩ : TResponse) := ⟨⟨by decide, by decide⟩, ⟨by decide, by decide⟩, Nat.zero_le _, ⟨by decide, by decide⟩, trivial, Nat.zero_le _⟩

instance : Flat TRequest := ⟨fun h => ⟨Flat.any h.kind, Flat.any h.to, Flat.any h.frm, Flat.any h.digest⟩⟩
theorem TRequest.zok (w : World) : Ph.ok w (⟨0, ⟨[], []⟩, [], []⟩ : TRequest) := ⟨⟨by decide, by decide⟩, TAddr.zok w, Nat.zero_le _, Nat.zero_le _⟩

instance : Flat TFile := ⟨fun h => ⟨Flat.any h.path, Flat.any h.response⟩⟩
theorem TFile.zok (w : World) : Ph.ok w (⟨[], ⟨0, 0, [], 0, false, []⟩⟩ : TFile) := ⟨Nat.zero_le _, TResponse.zok w⟩

instance : Own PServer where
  own w x F := (Ph.ok w x.host ∧ True) ∧ ∃ F0, Own.own w x.files F0 ∧ F = F0
  ok := by rintro w x F ⟨⟨a_host, _⟩, F0, o_files, rfl⟩; exact ⟨a_host, Own.ok o_files⟩
  loc := by
    rintro w w' x F hb ⟨⟨a_host, _⟩, F0, o_files, rfl⟩
    exact ⟨⟨Flat.any a_host, trivial⟩, F, Own.loc hb o_files, rfl⟩
  lt := by
    rintro w x F ⟨⟨a_host, _⟩, F0, o_files, rfl⟩ b hb
    · exact Own.lt o_files b hb

theorem PServer.join {w0 w : World} {C : List Chunk} {F0 : List Nat} (x : PServer) (hs : Sat M w0 w (ow x.files F0 :: C)) (a_host : Ph.ok w x.host) : Sat M w0 w (ow x (F0) :: C) := by
  exact Sat.fc_to (p := fun w => Own.own w x.files F0) (hl := fun _ _ h hp => Own.loc h hp) hs (fun h => ⟨⟨a_host, trivial⟩, _, h, rfl⟩)

theorem PServer.zown (w : World) : Own.own w (⟨[], ⟨[], none, 0⟩⟩ : PServer) [] := ⟨⟨Nat.zero_le _, trivial⟩, [], nilOwn w, rfl⟩

instance : Flat TEntry := ⟨fun h => ⟨Flat.any h.top, Flat.any h.to, Flat.any h.response, Flat.any h.until_⟩⟩
theorem TEntry.zok (w : World) : Ph.ok w (⟨[], ⟨[], []⟩, ⟨0, 0, [], 0, false, []⟩, 0⟩ : TEntry) := ⟨Nat.zero_le _, TAddr.zok w, TResponse.zok w, ⟨by decide, by decide⟩⟩

instance : Own PCache where
  own w x F := (True) ∧ ∃ F0, Own.own w x.entries F0 ∧ F = F0
  ok := by rintro w x F ⟨_, F0, o_entries, rfl⟩; exact ⟨Own.ok o_entries⟩
  loc := by
    rintro w w' x F hb ⟨_, F0, o_entries, rfl⟩
    exact ⟨trivial, F, Own.loc hb o_entries, rfl⟩
  lt := by
    rintro w x F ⟨_, F0, o_entries, rfl⟩ b hb
    · exact Own.lt o_entries b hb

theorem PCache.join {w0 w : World} {C : List Chunk} {F0 : List Nat} (x : PCache) (hs : Sat M w0 w (ow x.entries F0 :: C)) : Sat M w0 w (ow x (F0) :: C) := by
  exact Sat.fc_to (p := fun w => Own.own w x.entries F0) (hl := fun _ _ h hp => Own.loc h hp) hs (fun h => ⟨trivial, _, h, rfl⟩)

theorem PCache.zown (w : World) : Own.own w (⟨⟨[], none, 0⟩⟩ : PCache) [] := ⟨trivial, [], nilOwn w, rfl⟩

instance : Flat TSent := ⟨fun h => ⟨Flat.any h.top, Flat.any h.to, Flat.any h.guess⟩⟩
theorem TSent.zok (w : World) : Ph.ok w (⟨[], ⟨[], []⟩, false⟩ : TSent) := ⟨Nat.zero_le _, TAddr.zok w, trivial⟩

instance : Own PNet where
  own w x F := (Ph.ok w x.now ∧ True) ∧ ∃ F0 F1 F2, Own.own w x.servers F0 ∧ Own.own w x.cache F1 ∧ Own.own w x.log F2 ∧ F = F0 ++ F1 ++ F2
  ok := by rintro w x F ⟨⟨a_now, _⟩, F0, F1, F2, o_servers, o_cache, o_log, rfl⟩; exact ⟨Own.ok o_servers, Own.ok o_cache, Own.ok o_log, a_now⟩
  loc := by
    rintro w w' x F hb ⟨⟨a_now, _⟩, F0, F1, F2, o_servers, o_cache, o_log, rfl⟩
    exact ⟨⟨Flat.any a_now, trivial⟩, F0, F1, F2, Own.loc (fun b h => hb b (by simp [h])) o_servers, Own.loc (fun b h => hb b (by simp [h])) o_cache, Own.loc (fun b h => hb b (by simp [h])) o_log, rfl⟩
  lt := by
    rintro w x F ⟨⟨a_now, _⟩, F0, F1, F2, o_servers, o_cache, o_log, rfl⟩ b hb
    simp only [List.mem_append] at hb
    rcases hb with ((hb) | hb) | hb
    · exact Own.lt o_servers b hb
    · exact Own.lt o_cache b hb
    · exact Own.lt o_log b hb

theorem PNet.join {w0 w : World} {C : List Chunk} {F0 F1 F2 : List Nat} (x : PNet) (hs : Sat M w0 w (ow x.servers F0 :: ow x.cache F1 :: ow x.log F2 :: C)) (a_now : Ph.ok w x.now) : Sat M w0 w (ow x (F0 ++ F1 ++ F2) :: C) := by
  have h1 := Sat.fc_join (F := F0) (G := F1) (p := fun w => Own.own w x.servers F0) (q := fun w => Own.own w x.cache F1) (hp := fun _ _ h hp => Own.loc h hp) (hq := fun _ _ h hp => Own.loc h hp) hs
  have h2 := Sat.fc_join (G := F2) (q := fun w => Own.own w x.log F2) (hq := fun _ _ h hp => Own.loc h hp) h1
  exact h2.fc_to (fun h => ⟨⟨a_now, trivial⟩, F0, F1, F2, h.1.1, h.1.2, h.2, rfl⟩)

theorem PNet.zown (w : World) : Own.own w (⟨⟨[], none, 0⟩, ⟨⟨[], none, 0⟩⟩, ⟨[], none, 0⟩, 0⟩ : PNet) [] := ⟨⟨⟨by decide, by decide⟩, trivial⟩, [], [], [], nilOwn w, PCache.zown w, nilOwn w, rfl⟩

instance : Flat TSlot := ⟨fun h => ⟨Flat.any h.mode, Flat.any h.to, Flat.any h.digest, Flat.any h.node, Flat.any h.done, Flat.any h.code, Flat.any h.body⟩⟩
theorem TSlot.zok (w : World) : Ph.ok w (⟨0, ⟨[], []⟩, [], 0, false, 0, []⟩ : TSlot) := ⟨⟨by decide, by decide⟩, TAddr.zok w, Nat.zero_le _, ⟨by decide, by decide⟩, trivial, ⟨by decide, by decide⟩, Nat.zero_le _⟩

instance : Flat TModule := ⟨fun h => ⟨Flat.any h.to, Flat.any h.done, Flat.any h.code, Flat.any h.body⟩⟩
theorem TModule.zok (w : World) : Ph.ok w (⟨⟨[], []⟩, false, 0, []⟩ : TModule) := ⟨TAddr.zok w, trivial, ⟨by decide, by decide⟩, Nat.zero_le _⟩

instance : Own PPage where
  own w x F := (Ph.ok w x.addr ∧ Ph.ok w x.tok ∧ Ph.ok w x.ended ∧ Ph.ok w x.block ∧ Ph.ok w x.inln ∧ Ph.ok w x.deferred ∧ Ph.ok w x.entered ∧ Ph.ok w x.loaded ∧ True) ∧ ∃ F0 F1 F2 F3 F4 F5 F6 F7, Own.own w x.policy F0 ∧ Own.own w x.queue F1 ∧ Own.own w x.builder F2 ∧ Own.own w x.slots F3 ∧ Own.own w x.mods F4 ∧ Own.own w x.entries F5 ∧ Own.own w x.ran F6 ∧ Own.own w x.log F7 ∧ F = F0 ++ F1 ++ F2 ++ F3 ++ F4 ++ F5 ++ F6 ++ F7
  ok := by rintro w x F ⟨⟨a_addr, a_tok, a_ended, a_block, a_inln, a_deferred, a_entered, a_loaded, _⟩, F0, F1, F2, F3, F4, F5, F6, F7, o_policy, o_queue, o_builder, o_slots, o_mods, o_entries, o_ran, o_log, rfl⟩; exact ⟨a_addr, Own.ok o_policy, a_tok, Own.ok o_queue, a_ended, Own.ok o_builder, Own.ok o_slots, Own.ok o_mods, Own.ok o_entries, a_block, a_inln, a_deferred, a_entered, Own.ok o_ran, Own.ok o_log, a_loaded⟩
  loc := by
    rintro w w' x F hb ⟨⟨a_addr, a_tok, a_ended, a_block, a_inln, a_deferred, a_entered, a_loaded, _⟩, F0, F1, F2, F3, F4, F5, F6, F7, o_policy, o_queue, o_builder, o_slots, o_mods, o_entries, o_ran, o_log, rfl⟩
    exact ⟨⟨Flat.any a_addr, Flat.any a_tok, Flat.any a_ended, Flat.any a_block, Flat.any a_inln, Flat.any a_deferred, Flat.any a_entered, Flat.any a_loaded, trivial⟩, F0, F1, F2, F3, F4, F5, F6, F7, Own.loc (fun b h => hb b (by simp [h])) o_policy, Own.loc (fun b h => hb b (by simp [h])) o_queue, Own.loc (fun b h => hb b (by simp [h])) o_builder, Own.loc (fun b h => hb b (by simp [h])) o_slots, Own.loc (fun b h => hb b (by simp [h])) o_mods, Own.loc (fun b h => hb b (by simp [h])) o_entries, Own.loc (fun b h => hb b (by simp [h])) o_ran, Own.loc (fun b h => hb b (by simp [h])) o_log, rfl⟩
  lt := by
    rintro w x F ⟨⟨a_addr, a_tok, a_ended, a_block, a_inln, a_deferred, a_entered, a_loaded, _⟩, F0, F1, F2, F3, F4, F5, F6, F7, o_policy, o_queue, o_builder, o_slots, o_mods, o_entries, o_ran, o_log, rfl⟩ b hb
    simp only [List.mem_append] at hb
    rcases hb with (((((((hb) | hb) | hb) | hb) | hb) | hb) | hb) | hb
    · exact Own.lt o_policy b hb
    · exact Own.lt o_queue b hb
    · exact Own.lt o_builder b hb
    · exact Own.lt o_slots b hb
    · exact Own.lt o_mods b hb
    · exact Own.lt o_entries b hb
    · exact Own.lt o_ran b hb
    · exact Own.lt o_log b hb

theorem PPage.join {w0 w : World} {C : List Chunk} {F0 F1 F2 F3 F4 F5 F6 F7 : List Nat} (x : PPage) (hs : Sat M w0 w (ow x.policy F0 :: ow x.queue F1 :: ow x.builder F2 :: ow x.slots F3 :: ow x.mods F4 :: ow x.entries F5 :: ow x.ran F6 :: ow x.log F7 :: C)) (a_addr : Ph.ok w x.addr) (a_tok : Ph.ok w x.tok) (a_ended : Ph.ok w x.ended) (a_block : Ph.ok w x.block) (a_inln : Ph.ok w x.inln) (a_deferred : Ph.ok w x.deferred) (a_entered : Ph.ok w x.entered) (a_loaded : Ph.ok w x.loaded) : Sat M w0 w (ow x (F0 ++ F1 ++ F2 ++ F3 ++ F4 ++ F5 ++ F6 ++ F7) :: C) := by
  have h1 := Sat.fc_join (F := F0) (G := F1) (p := fun w => Own.own w x.policy F0) (q := fun w => Own.own w x.queue F1) (hp := fun _ _ h hp => Own.loc h hp) (hq := fun _ _ h hp => Own.loc h hp) hs
  have h2 := Sat.fc_join (G := F2) (q := fun w => Own.own w x.builder F2) (hq := fun _ _ h hp => Own.loc h hp) h1
  have h3 := Sat.fc_join (G := F3) (q := fun w => Own.own w x.slots F3) (hq := fun _ _ h hp => Own.loc h hp) h2
  have h4 := Sat.fc_join (G := F4) (q := fun w => Own.own w x.mods F4) (hq := fun _ _ h hp => Own.loc h hp) h3
  have h5 := Sat.fc_join (G := F5) (q := fun w => Own.own w x.entries F5) (hq := fun _ _ h hp => Own.loc h hp) h4
  have h6 := Sat.fc_join (G := F6) (q := fun w => Own.own w x.ran F6) (hq := fun _ _ h hp => Own.loc h hp) h5
  have h7 := Sat.fc_join (G := F7) (q := fun w => Own.own w x.log F7) (hq := fun _ _ h hp => Own.loc h hp) h6
  exact h7.fc_to (fun h => ⟨⟨a_addr, a_tok, a_ended, a_block, a_inln, a_deferred, a_entered, a_loaded, trivial⟩, F0, F1, F2, F3, F4, F5, F6, F7, h.1.1.1.1.1.1.1, h.1.1.1.1.1.1.2, h.1.1.1.1.1.2, h.1.1.1.1.2, h.1.1.1.2, h.1.1.2, h.1.2, h.2, rfl⟩)

theorem PPage.zown (w : World) : Own.own w (⟨⟨[], []⟩, ⟨false, ⟨[], none, 0⟩, ⟨[], none, 0⟩, ⟨[], none, 0⟩, []⟩, ⟨[]⟩, ⟨[], none, 0⟩, false, ⟨⟨[], none, 0⟩, ⟨[], none, 0⟩⟩, ⟨[], none, 0⟩, ⟨[], none, 0⟩, ⟨[], none, 0⟩, 0, 0, 0, 0, ⟨[], none, 0⟩, ⟨[], none, 0⟩, false⟩ : PPage) [] := ⟨⟨TAddr.zok w, TTokenizer.zok w, trivial, ⟨by decide, by decide⟩, ⟨by decide, by decide⟩, ⟨by decide, by decide⟩, ⟨by decide, by decide⟩, trivial, trivial⟩, [], [], [], [], [], [], [], [], PPolicy.zown w, nilOwn w, PBuilder.zown w, nilOwn w, nilOwn w, nilOwn w, nilOwn w, nilOwn w, rfl⟩

end Go.Sw
