-- All of these words.
import Derived.Test.YtgeonpciodepgaaV0
