-- All of these words.
import Derived.Test.YtddadihobjinhaaV0
